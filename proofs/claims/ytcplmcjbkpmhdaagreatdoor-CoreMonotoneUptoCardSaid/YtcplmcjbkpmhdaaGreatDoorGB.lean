/- Rows of numbers of the call's own. -/
import Derived.Test.YtcplmcjbkpmhdaaGreatDoorGA
import Derived.Test.YtcplmcjbkpmhdaaGreatDoorKM
import Derived.Test.YtcplmcjbkpmhdaaGreatDoorSD
import Derived.Test.YtcplmcjbkpmhdaaGreatDoorSE
import Derived.Deep.RegionHeld3
set_option linter.unusedSimpArgs false
set_option linter.unusedVariables false
set_option linter.unnecessarySimpa false
namespace Go.Proofs.YtcplmcjbkpmhdaaGreatDoor
open Go.RowKit
theorem elemRwC:Elem Tryz.prog 25 30 1:=Elem.of Tryz.underlying25 (by kernel_rfl) (z:=.slice none 0 0) (bytes:=24) rfl (by decide) (by decide)
def RowsN (w:World) (B:Nat) (xs:List Value) (ls:List (List Int)):Prop:=xs.length=ls.length∧∀ i (h:i < ls.length),∃ u,xs[i]? = some u∧w.ownsRow B 3 1 u (ls[i]'h).length ((ls[i]'h).map (Value.int .i64))
theorem rowsN_nil (w:World) (B:Nat):RowsN w B [] []:=⟨rfl,fun i h=>absurd h (by simp)⟩
theorem RowsN.imp {w w':World} {B:Nat} {xs:List Value} {ls:List (List Int)} (h:RowsN w B xs ls) (hk:∀ u n ys,w.ownsRow B 3 1 u n ys→w'.ownsRow B 3 1 u n ys):RowsN w' B xs ls :=
 ⟨h.1,fun i hi=>by obtain⟨u,h1,h2⟩:=h.2 i hi;exact⟨u,h1,hk _ _ _ h2⟩⟩
theorem RowsN.snoc {w:World} {B:Nat} {xs:List Value} {ls:List (List Int)} (h:RowsN w B xs ls) {u:Value} {l:List Int} (hu:w.ownsRow B 3 1 u l.length (l.map (Value.int .i64))):RowsN w B (xs++[u]) (ls++[l]):=by
 refine⟨by simp[h.1],fun i hi=>?_⟩
 by_cases e:i < ls.length
 ·obtain⟨v,h1,h2⟩:=h.2 i e
  refine⟨v,by rw[List.getElem?_append_left (by rw[h.1];exact e)];exact h1,?_⟩
  rw[List.getElem_append_left e]
  exact h2
 ·have hi':i=ls.length:=by simp at hi;omega
  subst hi'
  refine⟨u,by rw[← h.1];simp,?_⟩
  simpa using hu
theorem RowsN.rows {w:World} {B:Nat} {v:Value} {xs:List Value} {ls:List (List Int)} (h:RowsN w B xs ls) (ho:w.ownsRow B 30 1 v ls.length xs) (hn:ls.length≤1073741824) (hl:∀ i (hi:i < ls.length),(ls[i]'hi).length≤1073741824):∃ a cap,v=.slice a ls.length cap∧RowsIn w ls a cap:=by
 obtain⟨a,cap,hv,hS⟩:=slice_of_own ho hn
 refine⟨a,cap,hv,hS.mono fun i b o hi hq=>?_⟩
 obtain⟨u,h1,h2⟩:=h.2 i hi
 obtain⟨a',cap',hu,hI⟩:=ints_of_own h2 (hl i hi)
 refine⟨ls[i],List.getElem?_eq_getElem hi,a',cap',?_,hI⟩
 have:=hq 0 (by omega)
 rw[Nat.add_zero,Nat.mul_one,Nat.add_zero,h1,hu] at this
 exact this
theorem ownsRow_kept_typeC {w w':World} {B B':Nat} {e e':TypeId} {z z':Nat} {u v:Value} {n m:Nat} {ys xs:List Value} (h:w.ownsRow B e z u n ys) (ho:w.ownsRow B' e' z' v m xs) (hne:e≠e') (hg:w.grownBy w' v.ownBlock):w'.ownsRow B e z u n ys:=by
 refine h.kept hg ?_
 cases hu:u.ownBlock with
 | none=>exact Or.inl rfl
 | some k =>
  refine Or.inr (fun e1=>?_)
  obtain⟨c1,h1,_⟩:=ownsRow_type h hu
  obtain⟨c2,h2,_⟩:=ownsRow_type ho e1.symm
  rw[h1] at h2
  simp only[Option.some.injEq,Obj.cells.injEq] at h2
  exact hne h2.2.1
end Go.Proofs.YtcplmcjbkpmhdaaGreatDoor
namespace Go.Proofs.YtcplmcjbkpmhdaaGreatDoor
open Go.RowKit
attribute [local go_sem ↓] Go.wp_at_zero Go.wp_at_succ
set_option maxHeartbeats 2000000 in
set_option maxRecDepth 100000 in
theorem cloneX_any (n:Nat) (a:Option Addr) (c:Nat) (xs:List Value) (w:World) (hn:n≤1073741824) (hl:xs.length=n * 4) (h1:∀ u,u∈xs→u.oneCell'=true) (hc:n=0∨∃ b off,a=some ⟨b,off,none⟩∧∀ j u,xs[j]? = some u→w.cell? ⟨b,off+j,none⟩=some u) :
  Calls Tryz.prog 116 #[.slice a n c] w fun e w'=>(∃ v,e=.returned v∧w'.ownsRow w.heap.size 55 4 v n xs)∧Below w.heap.size w w':=by
 have q1:∀ (w:World) (a:Option Addr) (n c n' c':Nat),(binOp .eql 23 (.slice a n c) (.slice none n' c')).run Tryz.prog w=.ok (.bool a.isNone) w:=fun w a n c n' c'=>Lib.run_eql_slice_nil w _ _ a n c n' c' Tryz.underlying23
 rcases a with _ | ad
 ·have h0:n=0:=by
   rcases hc with h | ⟨b,off,h,_⟩
   ·exact h
   ·simp at h
  subst h0
  obtain rfl:xs=[]:=List.eq_nil_of_length_eq_zero (by simpa using hl)
  clear hc
  go_enter Tryz.func116, Tryz.ntmps116
  go_wp2_with fail
  go_ret
  exact⟨⟨_,rfl,World.ownsRow_nil _ _ _ _⟩,bel⟩
 ·have hx:∀ j u,xs[j]? = some u→w.cell? (ad.add j)=some u:=fun j u hu=>by
   rcases hc with h | ⟨b,off,h,h2⟩
   ·subst h
    obtain rfl:xs=[]:=List.eq_nil_of_length_eq_zero (by simpa using hl)
    simp at hu
   ·obtain rfl:=Option.some.inj h
    have hadd:(⟨b,off,none⟩:Addr).add j=⟨b,off+j,none⟩:=by unfold Addr.add;split<;>simp_all
    rw[hadd]
    exact h2 j u hu
  have HX:=Lib.hid (⟨hl,h1,hx⟩:_∧_∧_)
  clear hc hl h1 hx
  obtain⟨ht,i,z,bytes,hi,hz,hsz,hby,hzs,h0,hb⟩:=elemEx
  go_enter Tryz.func116, Tryz.ntmps116
  go_wp2_with (at_builtin;refine wpList_append_own _ rfl _ _ 23 rfl w.heap.size 55 i z 4 bytes ht hi hz hsz hby hzs h0 _ _ _ rfl (World.ownsRow_made w #[] 0 (Nat.le_refl _) (Nat.zero_le _) rfl) ad n c xs rfl HX.out.1 ?qc2 HX.out.2.1 ?qc4 ?qc5 ?qc6 ?_)
  case qc2=>exact fun j u hj=>Lib.cell?_alloc_some _ (HX.out.2.2 j u hj)
  case qc4=>unfold maxLen;omega
  case qc5 =>
   calc (0+n) * bytes≤1073741824 * 1024:=Nat.mul_le_mul (by omega) hb
    _≤_:=by decide
  case qc6=>simp
  intro v' w1 hown hgrow hnil
  have HO:Hid (w1.ownsRow w.heap.size 55 4 v' n xs):=Lib.hid (by simpa using hown)
  have HB:Hid (Below w.heap.size w w1):=((Below.refl _ w).alloc (Nat.le_refl _) _).grown hgrow (by simp) (by intro k hk;simp[Value.ownBlock] at hk;omega)
  clear hown hgrow hnil ht hi hz hsz hby hzs
  go_wp2_with fail
  go_ret
  exact⟨⟨_,rfl,HO.out⟩,HB.out⟩
theorem chosL_snoc {p:ProbD} {l:List Nat} {k:Nat} (h:k < l.length) (hk:(l[k]'h) < p.hard.length):chosL p (l.take (k+1))=chosL p (l.take k)++[p.hard[l[k]'h]'hk]:=by
 unfold chosL
 rw[List.take_succ_eq_append_getElem h,pickL_append,pickL_one hk,List.append_assoc]
theorem chosL_small {p:ProbD} (hp:ProbOk p) (hs:ProbSmall p) (l:List Nat):ExsSmall (chosL p l):=fun e he=>by
 rcases List.mem_append.1 he with h | h
 ·exact(supp_rok hp e h).2
 ·obtain⟨i,_,hi⟩:=pickL_mem.1 h
  exact hs.hard e (List.mem_of_getElem? hi)
theorem chosL_zero (p:ProbD) (l:List Nat):chosL p (l.take 0)=suppsE p:=by
 unfold chosL
 rw[List.take_zero,pickL_nil,List.append_nil]
theorem chosL_len {p:ProbD} {l:List Nat} (hl:∀ i,i∈l→i < p.hard.length):∀ k,k≤l.length→(chosL p (l.take k)).length=(suppsE p).length+k:=by
 intro k
 induction k with
 | zero=>intro _;rw[chosL_zero];rfl
 | succ k ih =>
  intro h
  have h:k < l.length:=h
  rw[chosL_snoc h (hl _ (List.getElem_mem h)),List.length_append,ih (by omega),List.length_singleton]
  rfl
structure TstIn (w:World) (p:ProbD) (x:ProbA) (bp bs:Nat):Prop where
 prob:ProbIn w p x
 box:w.heap[bp]? = some (.cells (probVals p x) 27 (0,0))
 sup:∃ sa sc,w.cell? ⟨bs,0,none⟩=some (.slice sa (suppsE p).length sc)∧ExsIn w (suppsE p) sa sc
theorem TstIn.below {w w':World} {p:ProbD} {x:ProbA} {bp bs:Nat} (h:TstIn w p x bp bs) (hb:Below w.heap.size w w'):TstIn w' p x bp bs:=by
 obtain⟨sa,sc,h1,h2⟩:=h.sup
 exact⟨h.prob.below hb,(hb.block _ (Array.getElem?_eq_some_iff.1 h.box).1).trans h.box,sa,sc,keeps_of_below hb _ _ h1,h2.keep (keeps_of_below hb)⟩
structure CorOk (p:ProbD):Prop where
 ok:ProbOk p
 small:ProbSmall p
 bits:bitsTo p.vars p.vars.length≤10
 dl:p.dists.length≤1048576
 hl:p.hard.length≤7
set_option maxHeartbeats 8000000 in
set_option maxRecDepth 100000 in
theorem test_any (p:ProbD) (x:ProbA) (bp bs:Nat) (l:List Nat) (a:Option Addr) (c:Nat) (w:World) (hp:CorOk p) (hG:Glob w) (hB:TstIn w p x bp bs) (hl:∀ i,i∈l→i < p.hard.length) (hI:IntsIn w (intsN l) a c) (hn:l.length≤1000) :
  Calls Tryz.prog 115 #[.slice a l.length c,.pointer (some ⟨bs,0,none⟩),.pointer (some ⟨bp,0,none⟩)] w fun e w'=>e=.returned (.bool (conT p l))∧Below w.heap.size w w':=by
 obtain⟨sa,sc,hbs,hS⟩:=hB.sup
 have HSv:=Lib.hid (fun L al cl W (hW:Below w.heap.size w W) (hL:ExsIn W L al cl) (hsl:ExsSmall L)=>Solvable_any p x L al cl W (hB.prob.below hW) hp.small hL hsl (hG.below hW) (fun _=>hp.bits))
 obtain⟨xs0,hxl,hxr,hx1,hxc⟩:=hS.rowOn
 have HCl:=Lib.hid (cloneX_any (suppsE p).length sa sc xs0 w hS.2.1 hxl hx1 hxc)
 have HSn:Hid (∀ k (h:k < l.length),chosL p (l.take (k+1))=chosL p (l.take k)++[p.hard[l[k]'h]'(hl _ (List.getElem_mem h))]):=fun k h=>chosL_snoc h (hl _ (List.getElem_mem h))
 have HLn:=Lib.hid (chosL_len hl)
 have HEnd:Hid (solvErr p (chosL p l)=0∧solvA p (chosL p l)=!conT p l):=chosL_solv hp.ok l
 have HSm:Hid (ExsSmall (chosL p l)):=chosL_small hp.ok hp.small l
 have HR0:Hid (ExRowOn (· < w.heap.size) w (chosL p (l.take 0)) xs0):=by rw[chosL_zero];exact hxr
 have HL0:Hid ((suppsE p).length=(chosL p (l.take 0)).length):=by rw[chosL_zero];rfl
 have hsl:(suppsE p).length≤1048576:=by unfold suppsE;rw[List.length_map];exact hp.dl
 have HH:=Lib.hid hB.prob.hard
 have HI:=Lib.hid hI
 have HLt:=Lib.hid hl
 have HBp:=Lib.hid hB.box
 have hbs:=hbs
 generalize chosL p=ST at HSn HLn HEnd HSm HR0 HL0
 generalize (suppsE p).length=sl at HCl HLn HL0 hsl hbs
 generalize conT p l=cv at HEnd⊢
 clear hp hG hB hS hxl hxr hx1 hxc hI
 simp only[probVal_eq] at HSv
 obtain⟨vs,hard,soft,ds,gs⟩:=p
 obtain⟨av,cv',ah,ch,ao,co,ad,cd,ag,cg⟩:=x
 simp only[probVals] at HSv HSn HH HBp HLt hl⊢
 have HBox:Hid (∀ W,Below w.heap.size w W→W.cell? ⟨bp,0,none⟩=some (.slice av vs.length cv')∧W.cell? ⟨bp,1,none⟩=some (.slice ah hard.length ch)∧W.cell? ⟨bp,2,none⟩=some (.slice ao soft.length co)∧W.cell? ⟨bp,3,none⟩=some (.slice ad ds.length cd)∧W.cell? ⟨bp,4,none⟩=some (.slice ag gs.length cg)):=fun W hW=>by
  have k:=keeps_of_below hW
  exact⟨k _ _ (by simp[World.cell?,HBp.out]),k _ _ (by simp[World.cell?,HBp.out]),k _ _ (by simp[World.cell?,HBp.out]),k _ _ (by simp[World.cell?,HBp.out]),k _ _ (by simp[World.cell?,HBp.out])⟩
 clear HBp
 go_enter Tryz.func115, Tryz.ntmps115
 go_wp2_with fail
 refine HCl.out.mono ?_
 rintro e w1 ⟨⟨v,rfl,hown⟩,hb1⟩
 have HB1:=Lib.hid hb1
 have hz1:=hb1.size
 have HO1:Hid (w1.ownsRow w.heap.size 55 4 v (ST (l.take 0)).length xs0):=by rw[← HL0.out];exact hown
 clear hown hb1 HCl
 go_wp2_with fail
 go_loopw [14,5,7] (fun i v _ wr=>∃ (k:Nat) (xs:List Value),i=.int .i64 k∧k≤l.length∧Hid (wr.ownsRow w.heap.size 55 4 v (ST (l.take k)).length xs)∧Hid (ExRowOn (· < w.heap.size) w (ST (l.take k)) xs)∧Hid (Below w.heap.size w wr)) (fun i _ _ _=>l.length - (intOf i).toNat)
 case atStart=>exact⟨0,xs0,rfl,Nat.zero_le _,HO1,HR0,HB1⟩
 case round =>
  obtain⟨k,xs,rfl,hk,HO,HR,HB⟩:=hrel
  obtain⟨b0,b1,b2,b3,b4⟩:=HBox.out wr HB.out
  have hzr:=HB.out.size
  have hln:=HLn.out k hk
  by_cases hlt:k < l.length
  ·have hle:(ST (l.take k)).length≤1049576:=by omega
   clear hln
   obtain⟨b,off,ha⟩:=HI.out.addr.resolve_left (by rw[intsN_len];omega)
   subst ha
   have hlt9:k < (intsN l).length:=by rw[intsN_len];exact hlt
   have i0:=(keeps_of_below HB.out) _ _ (intsIn_get HI.out rfl hlt9)
   rw[intsN_get hlt hlt9] at i0
   have hj:=HLt.out _ (List.getElem_mem hlt)
   have HN:=Lib.hid (HSn.out k hlt)
   obtain⟨hb,ho,hha⟩:=HH.out.addr.resolve_left (by omega)
   subst hha
   obtain⟨ea,ec,g0,g1,g2,g3,hX⟩:=HH.out.elt hj
   have kk:=keeps_of_below HB.out
   have c0:=kk _ _ g0
   have c1:=kk _ _ g1
   have c2:=kk _ _ g2
   have c3:=kk _ _ g3
   generalize (hard[l[k]'hlt]'hj)=e at c0 c1 c2 c3 hX HN
   generalize (l[k]'hlt)=j at i0 c0 c1 c2 c3 hj
   have HRn:Hid (ExRowOn (· < w.heap.size) w (ST (l.take k)++[e]) (xs++[.int .i64 e.op,.int .i64 e.n,.string e.name,.slice ea e.args.length ec])):=HR.out.append (fun w' hw'=>hX w' (fun p v h=>hw' p v (World.block_lt_of_cell? _ _ h) h))
   have hj0:(0:Int)≤(j:Int):=by omega
   have hjl:(j:Int) < hard.length:=by omega
   clear g0 g1 g2 g3 hX kk
   go_wp2_with (at_builtin;go_must (refine own_appx elemEx _ rfl (.tmp 18) (.tmp 24) rfl w.heap.size _ (ST (l.take k)).length xs rfl HO.out [.int .i64 e.op,.int .i64 e.n,.string e.name,.slice ea e.args.length ec] 1 _ _ rfl (by simp[Value.oneCell']) rfl rfl (by omega) (by omega) (by omega) ?_))
   intro g gcap w4 hown4 hg4 hat
   have HB4:Hid (Below w.heap.size w w4):=Below.grown (HB.out.alloc (by omega) _) hg4 (by simp;omega) (fun q hq=>(HO.out.lt q hq).1)
   have hne:(ST (l.take (k+1))).length=(ST (l.take k)).length+1:=by rw[HN.out,List.length_append,List.length_singleton]
   have HO4:Hid (w4.ownsRow w.heap.size 55 4 (.slice (some ⟨g,0,none⟩) ((ST (l.take k)).length+1) gcap) (ST (l.take (k+1))).length (xs++[.int .i64 e.op,.int .i64 e.n,.string e.name,.slice ea e.args.length ec])):=by rw[hne];exact hown4
   rw[← HN.out] at HRn
   clear hown4 hg4 hat
   go_wp2_with fail
   go_roundw
   case rel=>exact⟨k+1,_,by go_num,by omega,HO4,HRn,HB4⟩
   case measure=>(simp[intOf];try omega)
  ·obtain rfl:k=l.length:=by omega
   have hO:=HO.out
   have hR:=HR.out
   rw[List.take_length] at hO hR hln
   obtain⟨va,vc,rfl,hvI⟩:=exs_of_own hO (hR wr (agree_below HB.out)) (by omega)
   have HS:=Lib.hid (HSv.out _ va vc wr HB.out hvI HSm.out)
   rw[HEnd.out.1,HEnd.out.2] at HS
   clear hvI HO HR hO hR hln
   go_wp2_with fail
   refine HS.out.mono ?_
   rintro e w5 ⟨rfl,hb5⟩
   have HB5:Hid (Below w.heap.size w w5):=HB.out.trans (hb5.mono hzr)
   clear hb5
   cases cv
   all_goals
    go_wp2_with fail
    go_ret
    exact⟨rfl,HB5.out⟩
end Go.Proofs.YtcplmcjbkpmhdaaGreatDoor
namespace Go.Proofs.YtcplmcjbkpmhdaaGreatDoor
open Go.RowKit
attribute [local go_sem ↓] Go.wp_at_zero Go.wp_at_succ
abbrev valsN (l:List Nat):List Value:=(intsN l).map (Value.int .i64)
theorem valsN_len (l:List Nat):(valsN l).length=l.length:=by unfold valsN;rw[List.length_map,intsN_len]
theorem valsN_get {l:List Nat} {k:Nat} (h:k < l.length) (h':k < (valsN l).length):(valsN l)[k]'h'=.int .i64 ((l[k]'h:Nat):Int):=by simp[valsN,intsN]
theorem valsN_ints {w:World} {B:Nat} {v:Value} {l:List Nat} (h:w.ownsRow B 3 1 v l.length (valsN l)) (hn:l.length≤1073741824):∃ a c,v=.slice a l.length c∧IntsIn w (intsN l) a c:=by
 obtain⟨a,c,hv,hI⟩:=ints_of_own (l:=intsN l) (by rw[intsN_len];exact h) (by rw[intsN_len];exact hn)
 rw[intsN_len] at hv
 exact⟨a,c,hv,hI⟩
theorem intsN_erase (l:List Nat) (k:Nat):(intsN l).take k++(intsN l).drop (k+1)=intsN (l.eraseIdx k):=by
 unfold intsN
 rw[List.eraseIdx_eq_take_drop_succ,List.map_append,List.map_take,List.map_drop]
set_option maxHeartbeats 4000000 in
set_option maxRecDepth 100000 in
theorem all_any (p:ProbD) (x:ProbA) (w:World) (hn:p.hard.length≤1000) :
  Calls Tryz.prog 60 #[probVal p x] w fun e w'=>(∃ v,e=.returned v∧w'.ownsRow w.heap.size 3 1 v p.hard.length (valsN (List.range p.hard.length)))∧Below w.heap.size w w':=by
 simp only[probVal_eq]
 obtain⟨vs,hard,soft,ds,gs⟩:=p
 obtain⟨av,cv,ah,ch,ao,co,ad,cd,ag,cg⟩:=x
 simp only at hn⊢
 generalize hard.length=n at *
 have HV:Hid ((valsN (List.range n)).length=n):=by show _=_;rw[valsN_len,List.length_range]
 have HVg:Hid (∀ k (h:k < n) (h':k < (valsN (List.range n)).length),(valsN (List.range n))[k]'h'=.int .i64 (k:Int)):=fun k h h'=>by
  rw[valsN_get (by rw[List.length_range];exact h) h',List.getElem_range]
 generalize valsN (List.range n)=V at HV HVg⊢
 go_enter Tryz.func60, Tryz.ntmps60
 go_wp2_with (at_make;go_must (refine make_blk elemI rfl (.tmp 7) (.tmp 7) rfl n _ rfl rfl (by simp) (by omega) ?_))
 intro cur hcur
 have hcur:cur.length=n:=by simpa using hcur
 generalize hW1:(w.alloc (.cells #[.slice av vs.length cv,.slice ah n ch,.slice ao soft.length co,.slice ad ds.length cd,.slice ag gs.length cg] 27))=w1
 have HB1:Hid (Below w.heap.size w w1):=by show Below _ _ _;rw[← hW1];exact bel
 have hz1:w1.heap.size=w.heap.size+1:=by rw[← hW1];simp
 have HK1:Hid (∀ o,(w1.alloc o).heap[w.heap.size+1]? = some o):=fun o=>by rw[← hz1];exact heap_alloc_new' _ _
 clear hW1
 have HoA:Hid ((w1.alloc (.cells cur.toArray 3)).ownsRow w.heap.size 3 1 (.slice (some ⟨w.heap.size+1,0,none⟩) n n) n cur):=⟨by omega,Or.inr ⟨w.heap.size+1,n,_,rfl,by omega,HK1.out _,Nat.le_refl _,by unfold maxLen;omega,by simp[hcur],by simp only[];exact List.take_of_length_le (by omega)⟩⟩
 have HBA:Hid (Below w.heap.size w (w1.alloc (.cells cur.toArray 3))):=HB1.out.alloc (by omega) _
 generalize w1.alloc (.cells cur.toArray 3)=wA at HoA HBA⊢
 go_wp2_with fail
 go_loopw [11,4] (fun i _ wq=>∃ t:Nat,i=.int .i64 t∧t≤n∧Hid (wq.ownsRow w.heap.size 3 1 (.slice (some ⟨w.heap.size+1,0,none⟩) n n) n (V.take t++cur.drop t))∧Hid (Below w.heap.size w wq)) (fun i _ _=>n - (intOf i).toNat)
 case atStart=>exact⟨0,rfl,Nat.zero_le _,by simpa using HoA,HBA⟩
 case round =>
  obtain⟨t,rfl,ht,HO,HB⟩:=hrel
  by_cases hlt:t < n
  ·have hxd:t < (V.take t++cur.drop t).length:=by rw[List.length_append,List.length_take,List.length_drop,HV.out];omega
   have hcz:=HO.out.cellAt t (by omega)
   rw[List.getElem?_eq_getElem hxd] at hcz
   have hfz:=HO.out.frozenAt t
   have hSt:=(HO.out.stored t (.int .i64 (t:Int))).1
   have htv:t < V.length:=by rw[HV.out];exact hlt
   rw[← HVg.out t hlt htv,fill_set htv (by rw[HV.out];exact hcur)] at hSt
   rw[HVg.out t hlt htv] at hSt
   have HSt:=Lib.hid hSt
   have HB2:Hid (Below w.heap.size w (wr.setCell ⟨w.heap.size+1,t,none⟩ (.int .i64 (t:Int)))):=HB.out.setCell (show w.heap.size≤w.heap.size+1 by omega) _
   clear hSt
   go_wp2_with fail
   go_roundw
   case rel=>exact⟨t+1,by go_num,by omega,HSt,HB2⟩
   case measure=>(simp[intOf];try omega)
  ·obtain rfl:t=n:=by omega
   have hO:=HO.out
   rw[List.take_of_length_le (by rw[HV.out];exact Nat.le_refl _),List.drop_of_length_le (by omega),List.append_nil] at hO
   have HO2:=Lib.hid hO
   clear hO HO
   go_wp2_with fail
   go_ret
   exact⟨⟨_,rfl,HO2.out⟩,HB.out⟩
theorem two_cells (w:World) (v0 v1:Value) (t:TypeId):(w.alloc (.cells #[v0,v1] t)).drew.cell? ⟨w.heap.size,0,none⟩=some v0∧(w.alloc (.cells #[v0,v1] t)).drew.cell? ⟨w.heap.size,1,none⟩=some v1 :=
 ⟨cell_of_blk (heap_alloc_new' w (.cells #[v0,v1] t)) 0,cell_of_blk (heap_alloc_new' w (.cells #[v0,v1] t)) 1⟩
set_option maxHeartbeats 4000000 in
set_option maxRecDepth 100000 in
theorem without_any (l:List Nat) (a:Option Addr) (c k:Nat) (w:World) (hI:IntsIn w (intsN l) a c) (hk:k < l.length) :
  Calls Tryz.prog 117 #[.slice a l.length c,.int .i64 k] w fun e w'=>(∃ v,e=.returned v∧w'.ownsRow w.heap.size 3 1 v (l.eraseIdx k).length (valsN (l.eraseIdx k)))∧Below w.heap.size w w':=by
 have hlen:=hI.2.1
 rw[intsN_len] at hlen
 have hcap:=hI.1
 rw[intsN_len] at hcap
 obtain⟨b,off,rfl⟩:=hI.addr.resolve_left (by rw[intsN_len];omega)
 have HT:=Lib.hid (hI.takeI k c (by omega))
 have HD:Hid (IntsIn w ((intsN l).drop (k+1)) (if c=k+1 then some ⟨b,off,none⟩ else some ⟨b,off+(k+1),none⟩) (c - (k+1))):=by
  show IntsIn _ _ _ _
  split
  ·have h0:((intsN l).drop (k+1)).length=0:=by rw[List.length_drop,intsN_len];omega
   exact⟨by omega,by omega,Or.inl h0⟩
  ·exact hI.dropI (k+1) (c - (k+1)) (by rw[intsN_len];omega)
 have hl1:((intsN l).take k).length=k:=by rw[List.length_take,intsN_len];omega
 have hl2:((intsN l).drop (k+1)).length=l.length - (k+1):=by rw[List.length_drop,intsN_len]
 have HC:=Lib.hid (fun bo W (hW:Below w.heap.size w W) c0 c1=>concatIX_any ((intsN l).take k) ((intsN l).drop (k+1)) (some ⟨b,off,none⟩) (if c=k+1 then some ⟨b,off,none⟩ else some ⟨b,off+(k+1),none⟩) c (c - (k+1)) bo W c0 c1 (HT.out.keep (keeps_of_below hW)) (HD.out.keep (keeps_of_below hW)) (by rw[List.length_append,hl1,hl2];omega))
 rw[hl1,hl2,intsN_erase] at HC
 unfold ConcPostI at HC
 rw[intsN_len] at HC
 have HC:=Lib.hid (fun bo W (hW:Below w.heap.size w W) c0 c1=>(HC.out bo W hW c0 c1).mono (R':=fun e w'=>(∃ v,e=.returned v∧w'.ownsRow w.heap.size 3 1 v (l.eraseIdx k).length (valsN (l.eraseIdx k)))∧Below w.heap.size w w') fun e w' ⟨⟨v,h1,h2⟩,h3⟩=>⟨⟨v,h1,own_base h2 hW.size⟩,hW.trans (h3.mono hW.size)⟩)
 have hkw:IntKind.i64.wrap ((k:Int)+1)=(k:Int)+1:=by rw[IntKind.wrap_i64];omega
 have hk1:(0:Int)≤(k:Int):=by omega
 have hk2:(k:Int)≤(c:Int):=by omega
 have hk3:(k:Int)+1≤(l.length:Int):=by omega
 have hk4:(0:Int)≤(k:Int)+1:=by omega
 have hk5:¬ ((k:Int)+1 < 0):=by omega
 have hk6:(l.length:Int)≤(c:Int):=by omega
 clear HT HD hI
 by_cases hck:c=k+1
 ·rw[if_pos hck] at HC
  obtain⟨c,rfl⟩:∃ c',c'=c:=⟨_,rfl⟩
  have hE:l.length=c:=by omega
  have hE2:(l.length:Int)=(c:Int):=by omega
  have hci:(c=k+1)=True:=eq_true hck
  clear hE hE2 hck
  go_enter Tryz.func117, Tryz.ntmps117
  go_wp2_with fail
  have hbw:Below w.heap.size w w:=Below.refl _ _
  go_region_held3 (fun w'=>Below w.heap.size w w')
   ((first | with_reducible assumption | exact bel))
   (first | (go_at_call 167;(with_reducible refine(HC.out _ _ (by first | with_reducible assumption | exact bel) (two_cells _ _ _ _).1 (two_cells _ _ _ _).2).mono ?_);rintro e w1 ⟨⟨v,rfl,ho⟩,hb1⟩))
  all_goals
   go_wp2_with fail
   go_ret
   exact⟨⟨_,rfl,ho⟩,hb1⟩
 ·rw[if_neg hck] at HC
  have hck2:¬ ((c:Int)=(k:Int)+1):=by omega
  go_enter Tryz.func117, Tryz.ntmps117
  go_wp2_with fail
  have hbw:Below w.heap.size w w:=Below.refl _ _
  go_region_held3 (fun w'=>Below w.heap.size w w')
   ((first | with_reducible assumption | exact bel))
   (first | (go_at_call 167;(with_reducible refine(HC.out _ _ (by first | with_reducible assumption | exact bel) (two_cells _ _ _ _).1 (two_cells _ _ _ _).2).mono ?_);rintro e w1 ⟨⟨v,rfl,ho⟩,hb1⟩))
  all_goals
   go_wp2_with fail
   go_ret
   exact⟨⟨_,rfl,ho⟩,hb1⟩
end Go.Proofs.YtcplmcjbkpmhdaaGreatDoor
namespace Go.Proofs.YtcplmcjbkpmhdaaGreatDoor
open Go.RowKit
attribute [local go_sem ↓] Go.wp_at_zero Go.wp_at_succ
abbrev tstV (bp bs:Nat):Value:=.func (.func 115) #[] #[.pointer (some ⟨bs,0,none⟩),.pointer (some ⟨bp,0,none⟩)]
set_option maxHeartbeats 4000000 in
set_option maxRecDepth 100000 in
theorem tester_any (p:ProbD) (x:ProbA) (w:World) (hp:CorOk p) (hG:Glob w) (hE:ProbIn w p x) :
  Calls Tryz.prog 59 #[probVal p x] w fun e w'=>(∃ bp bs,e=.returned (tstV bp bs)∧TstIn w' p x bp bs)∧Below w.heap.size w w':=by
 have HSu:=Lib.hid (fun W (hW:Below w.heap.size w W)=>Support_any p x W (hE.below hW) hp.small (hG.below hW))
 have HOk:=Lib.hid hp.ok
 have HE:=Lib.hid hE
 clear hp hG hE
 have HPo:Hid (∀ (W:World) (bp bs:Nat) (sa:Option Addr) (sc:Nat),W.heap[bp]? = some (.cells (probVals p x) 27 (0,0))→W.cell? ⟨bs,0,none⟩=some (.slice sa (suppsE p).length sc)→ExsIn W (suppsE p) sa sc→Below w.heap.size w W→TstIn W p x bp bs):=fun W bp bs sa sc h1 h2 h3 h4=>⟨HE.out.below h4,h1,sa,sc,h2,h3⟩
 unfold SupRet at HSu
 obtain⟨pv,hpv⟩:∃ pv,pv=probVal p x:=⟨_,rfl⟩
 have HBx:Hid (∀ W:World,Below (W.alloc (.cells (probVals p x) 27)).heap.size (W.alloc (.cells (probVals p x) 27)) (W.alloc (.cells (probVals p x) 27))):=fun W=>Below.refl _ _
 simp only[probVal_eq] at HSu⊢
 obtain⟨vs,hard,soft,ds,gs⟩:=p
 obtain⟨av,cv,ah,ch,ao,co,ad,cd,ag,cg⟩:=x
 simp only[probVals] at HSu HPo⊢
 go_enter Tryz.func59, Tryz.ntmps59
 go_wp2_with fail
 generalize hW1:w.alloc (.cells #[.slice av vs.length cv,.slice ah hard.length ch,.slice ao soft.length co,.slice ad ds.length cd,.slice ag gs.length cg] 27)=w1
 have HB1:Hid (Below w.heap.size w w1):=by show Below _ _ _;rw[← hW1];exact bel
 have HK1:Hid (w1.heap[w.heap.size]? = some (.cells #[.slice av vs.length cv,.slice ah hard.length ch,.slice ao soft.length co,.slice ad ds.length cd,.slice ag gs.length cg] 27 (0,0))):=by show _=_;rw[← hW1];exact heap_alloc_new' _ _
 clear hW1
 refine(HSu.out w1 HB1.out).mono ?_
 rintro e w2 ⟨l,sa,sc,rfl,hX,hok,-,hb2⟩
 obtain rfl:=hok HOk.out
 have HX2:=Lib.hid (hX w2 (fun _ _ _ h=>h))
 have HB2:Hid (Below w.heap.size w w2):=HB1.out.trans (hb2.mono HB1.out.size)
 have HK2:Hid (w2.heap[w.heap.size]? = some (.cells #[.slice av vs.length cv,.slice ah hard.length ch,.slice ao soft.length co,.slice ad ds.length cd,.slice ag gs.length cg] 27 (0,0))):=(hb2.block _ (Array.getElem?_eq_some_iff.1 HK1.out).1).trans HK1.out
 clear hX hok hb2 HSu
 go_wp2_with fail
 go_ret
 have hB3:∀ o,Below w2.heap.size w2 (w2.alloc o):=fun o=>(Below.refl _ _).alloc (Nat.le_refl _) o
 refine⟨⟨w.heap.size,w2.heap.size,rfl,HPo.out _ _ _ sa sc ((Below.heap_alloc _ _ _ (Array.getElem?_eq_some_iff.1 HK2.out).1).trans HK2.out) ?_ (HX2.out.keep (keeps_of_below (hB3 _))) (HB2.out.trans ((hB3 _).mono HB2.out.size))⟩,HB2.out.trans ((hB3 _).mono HB2.out.size)⟩
 rw[cell_of_blk (heap_alloc_new' w2 _) 0]
 rfl
set_option maxHeartbeats 8000000 in
set_option maxRecDepth 100000 in
theorem within_any (p:ProbD) (x:ProbA) (bp bs:Nat) (l:List Nat) (v:Value) (w:World) (hp:CorOk p) (hG:Glob w) (hB:TstIn w p x bp bs) (hl:∀ i,i∈l→i < p.hard.length) (hn:l.length≤7) (hv:w.ownsRow 0 3 1 v l.length (valsN l)) :
  Calls Tryz.prog 61 #[tstV bp bs,v] w fun e w'=>(∃ v',e=.returned v'∧w'.ownsRow 0 3 1 v' (coreW p l).length (valsN (coreW p l)))∧Below w.heap.size w w':=by
 have HTs:=Lib.hid (fun (s:List Nat) (hs:s.Sublist l) a c W (hW:Below w.heap.size w W) (hI:IntsIn W (intsN s) a c)=>test_any p x bp bs s a c W hp (hG.below hW) (hB.below hW) (fun i hi=>hl i (hs.subset hi)) hI (by have:=hs.length_le;omega))
 have HWo:=Lib.hid (fun (s:List Nat) a c k W (hI:IntsIn W (intsN s) a c) (hk:k < s.length)=>without_any s a c k W hI hk)
 have HWl:Hid (∀ k s,withinL (conT p) (k+1) s=withinL (conT p) k (if conT p (s.eraseIdx k)=true then s.eraseIdx k else s)):=fun k s=>rfl
 have HWz:Hid (∀ s,withinL (conT p) 0 s=s):=fun s=>rfl
 have HV:=Lib.hid hv
 have HCo:Hid (withinL (conT p) l.length l=coreW p l):=rfl
 generalize coreW p l=R at HCo⊢
 generalize conT p=T at HTs HWl HWz HCo
 clear hp hG hB hl hv
 go_enter Tryz.func61, Tryz.ntmps61
 obtain⟨va,vc,rfl,-⟩:=valsN_ints HV.out (by omega)
 go_wp2_with fail
 go_loopw [5,1,6] (fun i v _ wr=>∃ (k:Nat) (s:List Nat),i=.int .i64 ((k:Int) - 1)∧k≤s.length∧s.length≤7∧Hid (s.Sublist l)∧Hid (withinL T k s=R)∧Hid (wr.ownsRow 0 3 1 v s.length (valsN s))∧Hid (Below w.heap.size w wr)) (fun i _ _ _=>(intOf i+1).toNat)
 case atStart=>exact⟨l.length,l,by first | rfl | (rw[IntKind.wrap_i64];congr 1;omega) | (congr 1;rw[IntKind.wrap_i64];omega),Nat.le_refl _,hn,List.Sublist.refl _,HCo,HV,Below.refl _ _⟩
 case round =>
  obtain⟨k,s,rfl,hks,hs7,HS,HW,HO,HB⟩:=hrel
  obtain⟨sa,sc,rfl,hI⟩:=valsN_ints HO.out (by omega)
  cases k with
  | zero =>
   have hs:s=R:=by rw[← HW.out];exact(HWz.out s).symm
   subst hs
   clear hI
   go_wp2_with fail
   go_ret
   exact⟨⟨_,rfl,HO.out⟩,HB.out⟩
  | succ k =>
   have hi:((k+1:Nat):Int) - 1=(k:Int):=by omega
   rw[hi]
   have hk0:(0:Int)≤(k:Int):=by omega
   have hkw:IntKind.i64.wrap ((k:Int) - 1)=(k:Int) - 1:=by rw[IntKind.wrap_i64];omega
   have HCw:=Lib.hid (HWo.out s sa sc k wr hI (by omega))
   have HW1:=Lib.hid ((HWl.out k s).symm.trans HW.out)
   have HS1:Hid ((s.eraseIdx k).Sublist l):=(List.eraseIdx_sublist ..).trans HS.out
   have hel:(s.eraseIdx k).length≤7∧k≤(s.eraseIdx k).length:=by rw[List.length_eraseIdx_of_lt (by omega)];omega
   clear hI hi
   go_wp2_with fail
   refine HCw.out.mono ?_
   rintro e w2 ⟨⟨v2,rfl,ho2⟩,hb2⟩
   have HB2:Hid (Below w.heap.size w w2):=HB.out.trans (hb2.mono HB.out.size)
   have HO2:Hid (w2.ownsRow 0 3 1 v2 (s.eraseIdx k).length (valsN (s.eraseIdx k))):=own_base ho2 (Nat.zero_le _)
   have HOs:=Lib.hid (ownsRow_below HO.out hb2)
   obtain⟨ea,ec,rfl,heI⟩:=valsN_ints HO2.out (by have:=hel.1;omega)
   have HTt:=Lib.hid (HTs.out (s.eraseIdx k) HS1.out ea ec w2 HB2.out heI)
   clear ho2 hb2 heI HCw
   cases ht:T (s.eraseIdx k)
   ·rw[ht] at HTt HW1
    have HW1:Hid (withinL T k s=R):=Lib.hid (by have h:=HW1.out;simpa using h)
    go_wp2_with fail
    refine HTt.out.mono ?_
    rintro e w3 ⟨rfl,hb3⟩
    have HB3:Hid (Below w.heap.size w w3):=HB2.out.trans (hb3.mono HB2.out.size)
    have HO3:=Lib.hid (ownsRow_below HOs.out hb3)
    clear hb3
    go_wp2_with fail
    go_roundw
    case rel=>exact⟨k,s,by go_num,by omega,hs7,HS,HW1,HO3,HB3⟩
    case measure=>(simp[intOf];try omega)
   ·rw[ht] at HTt HW1
    have HW1:Hid (withinL T k (s.eraseIdx k)=R):=Lib.hid (by have h:=HW1.out;simpa using h)
    go_wp2_with fail
    refine HTt.out.mono ?_
    rintro e w3 ⟨rfl,hb3⟩
    have HB3:Hid (Below w.heap.size w w3):=HB2.out.trans (hb3.mono HB2.out.size)
    have HO3:=Lib.hid (ownsRow_below HO2.out hb3)
    clear hb3
    go_wp2_with fail
    go_roundw
    case rel=>exact⟨k,s.eraseIdx k,by go_num,hel.2,hel.1,HS1,HW1,HO3,HB3⟩
    case measure=>(simp[intOf];try omega)
end Go.Proofs.YtcplmcjbkpmhdaaGreatDoor
namespace Go.Proofs.YtcplmcjbkpmhdaaGreatDoor
open Go.RowKit
attribute [local go_sem ↓] Go.wp_at_zero Go.wp_at_succ
theorem allL_len (p:ProbD):(allL p).length=p.hard.length:=List.length_range
theorem allL_lt (p:ProbD):∀ i,i∈allL p→i < p.hard.length:=fun _ h=>List.mem_range.1 h
theorem allL_any (p:ProbD) (x:ProbA) (w:World) (hn:p.hard.length≤1000) :
  Calls Tryz.prog 60 #[probVal p x] w fun e w'=>(∃ v a c,e=.returned v∧v=.slice a (allL p).length c∧w'.ownsRow 0 3 1 v (allL p).length (valsN (allL p))∧IntsIn w' (intsN (allL p)) a c)∧Below w.heap.size w w' :=
 (all_any p x w hn).mono fun e w' ⟨⟨v,h1,h2⟩,h3⟩=>by
  have h4:w'.ownsRow 0 3 1 v (allL p).length (valsN (allL p)):=by rw[allL_len];exact own_base h2 (Nat.zero_le _)
  obtain⟨a,c,h5,h6⟩:=valsN_ints h4 (by rw[allL_len];omega)
  exact⟨⟨v,a,c,h1,h5,h4,h6⟩,h3⟩
def CoreRet (p:ProbD) (w:World) (e:Ending) (w':World):Prop:=(∃ v,e=.returned (.tuple #[v,.int .i64 (coreE p)])∧w'.ownsRow 0 3 1 v (coreL p).length (valsN (coreL p)))∧Below w.heap.size w w'
set_option maxHeartbeats 8000000 in
set_option maxRecDepth 100000 in
theorem Core_any (p:ProbD) (x:ProbA) (w:World) (hE:ProbIn w p x) (hs:ProbSmall p) (hG:Glob w) (hT:ProbOk p→bitsTo p.vars p.vars.length≤10) (hd:p.dists.length≤1048576) (hh:p.hard.length≤7) :
  Calls Tryz.prog 22 #[probVal p x] w (CoreRet p w):=by
 have HV0:=Lib.hid (fun W (hW:Below w.heap.size w W)=>Valid_any p x W (hE.keep (keeps_of_below hW)) hs (hG.below hW))
 by_cases hp:ProbOk p
 ·have hc:CorOk p:=⟨hp,hs,hT hp,hd,hh⟩
  have HV1:=Lib.hid (fun W hW=>errT (HV0.out W hW) hp)
  have HTe:=Lib.hid (fun W (hW:Below w.heap.size w W)=>tester_any p x W hc (hG.below hW) (hE.below hW))
  have HAl:=Lib.hid (fun W=>allL_any p x W (by omega))
  have HTs:=Lib.hid (fun bp bs a c W (hW:Below w.heap.size w W) (hB:TstIn W p x bp bs) (hI:IntsIn W (intsN (allL p)) a c)=>test_any p x bp bs (allL p) a c W hc (hG.below hW) hB (allL_lt p) hI (by rw[allL_len];omega))
  have HWi:=Lib.hid (fun bp bs v W (hW:Below w.heap.size w W) (hB:TstIn W p x bp bs) hv=>within_any p x bp bs (allL p) v W hc (hG.below hW) hB (allL_lt p) (by rw[allL_len];omega) hv)
  have HPo:Hid (∀ W,conT p (allL p)=false→Below w.heap.size w W→CoreRet p w (.returned (.tuple #[.slice none 0 0,.int .i64 13])) W):=fun W h1 h2=>by
   have e1:coreE p=13:=by unfold coreE;rw[if_pos (pB_true hp),if_neg (by rw[h1];simp)]
   have e2:coreL p=[]:=by unfold coreL;rw[if_pos (pB_true hp),if_neg (by rw[h1];simp)]
   refine⟨⟨_,by rw[e1],?_⟩,h2⟩
   rw[e2]
   exact World.ownsRow_nil _ _ _ _
  have HPn:Hid (∀ W v,conT p (allL p)=true→W.ownsRow 0 3 1 v (coreW p (allL p)).length (valsN (coreW p (allL p)))→Below w.heap.size w W→CoreRet p w (.returned (.tuple #[v,.int .i64 0])) W):=fun W v h1 h2 h3=>by
   have e1:coreE p=0:=by unfold coreE;rw[if_pos (pB_true hp),if_pos h1]
   have e2:coreL p=coreW p (allL p):=by unfold coreL;rw[if_pos (pB_true hp),if_pos h1]
   exact⟨⟨_,by rw[e1],by rw[e2];exact h2⟩,h3⟩
  generalize coreW p (allL p)=R at HWi HPn
  generalize hcv:conT p (allL p)=cq at HTs HPo HPn
  generalize CoreRet p w=Po at HPo HPn⊢
  simp only[probVal_eq] at HV1 HTe HAl⊢
  generalize (allL p).length=n at HAl HTs HWi
  generalize allL p=AL at HAl HTs HWi
  clear hE hs hG hT hd hh HV0 hp hc hcv
  obtain⟨vs,hard,soft,ds,gs⟩:=p
  obtain⟨av,cv,ah,ch,ao,co,ad,cd,ag,cg⟩:=x
  simp only at HV1 HTe HAl⊢
  have HV:=Lib.hid (HV1.out (w.alloc (.cells #[.slice av vs.length cv,.slice ah hard.length ch,.slice ao soft.length co,.slice ad ds.length cd,.slice ag gs.length cg] 27)) ((Below.refl _ _).alloc (Nat.le_refl _) _))
  clear HV1
  go_enter Tryz.func22, Tryz.ntmps22
  go_wp2_with fail
  refine HV.out.mono ?_
  rintro e w1 ⟨rfl,hb1⟩
  simp only[World.size_alloc] at hb1
  have HB1:=Lib.hid hb1
  have hz1:=hb1.size
  simp only[World.size_alloc] at hz1
  clear hb1
  ((try clear b0 b1 b2 b3 b4);have b0:=box_cell HB1.out 0;have b1:=box_cell HB1.out 1;have b2:=box_cell HB1.out 2;have b3:=box_cell HB1.out 3;have b4:=box_cell HB1.out 4;(try simp at b0 b1 b2 b3 b4))
  go_wp2_with fail
  refine(HTe.out w1 (boxW _ HB1.out)).mono ?_
  rintro e w2 ⟨⟨bp,bs,rfl,hT2⟩,hb2⟩
  have HB2:=Lib.hid (HB1.out.trans (hb2.mono (by omega)))
  have HT2:=Lib.hid hT2
  have hz2:=hb2.size
  clear hT2 hb2
  ((try clear b0 b1 b2 b3 b4);have b0:=box_cell HB2.out 0;have b1:=box_cell HB2.out 1;have b2:=box_cell HB2.out 2;have b3:=box_cell HB2.out 3;have b4:=box_cell HB2.out 4;(try simp at b0 b1 b2 b3 b4))
  go_wp2_with fail
  refine(HAl.out w2).mono ?_
  rintro e w3 ⟨⟨v3,a3,c3,rfl,rfl,-,hI3⟩,hb3⟩
  have HB3:=Lib.hid (HB2.out.trans (hb3.mono (by omega)))
  have HT3:=Lib.hid (HT2.out.below hb3)
  have hz3:=hb3.size
  have HS3:=Lib.hid (HTs.out bp bs a3 c3 w3 (boxW _ HB3.out) HT3.out hI3)
  clear hI3 hb3
  go_wp2_with fail
  refine HS3.out.mono ?_
  rintro e w4 ⟨rfl,hb4⟩
  have HB4:=Lib.hid (HB3.out.trans (hb4.mono (by omega)))
  have HT4:=Lib.hid (HT3.out.below hb4)
  have hz4:=hb4.size
  clear hb4
  ((try clear b0 b1 b2 b3 b4);have b0:=box_cell HB4.out 0;have b1:=box_cell HB4.out 1;have b2:=box_cell HB4.out 2;have b3:=box_cell HB4.out 3;have b4:=box_cell HB4.out 4;(try simp at b0 b1 b2 b3 b4))
  cases cq
  ·go_wp2_with fail
   exact HPo.out _ (by first | rfl | trivial) (boxW _ HB4.out)
  ·go_wp2_with fail
   refine(HAl.out w4).mono ?_
   rintro e w5 ⟨⟨v5,a5,c5,rfl,rfl,ho5,-⟩,hb5⟩
   have HB5:=Lib.hid (HB4.out.trans (hb5.mono (by omega)))
   have HW5:=Lib.hid (HWi.out bp bs _ w5 (boxW _ HB5.out) (HT4.out.below hb5) ho5)
   have hz5:=hb5.size
   clear ho5 hb5
   go_wp2_with fail
   refine HW5.out.mono ?_
   rintro e w6 ⟨⟨v6,rfl,ho6⟩,hb6⟩
   have HO6:=Lib.hid ho6
   have HB6:=Lib.hid ((boxW _ HB5.out).trans (hb6.mono (boxW _ HB5.out).size))
   clear ho6 hb6
   go_wp2_with fail
   exact HPn.out _ _ (by first | rfl | trivial) HO6.out HB6.out
 ·have HV1:=Lib.hid (fun W hW=>errF (HV0.out W hW) hp)
  have HPe:Hid (∀ W,Below w.heap.size w W→CoreRet p w (.returned (.tuple #[.slice none 0 0,.int .i64 1])) W):=fun W h2=>by
   have e1:coreE p=1:=by unfold coreE;rw[if_neg (fun h=>hp (pB_iff.1 h))]
   have e2:coreL p=[]:=by unfold coreL;rw[if_neg (fun h=>hp (pB_iff.1 h))]
   refine⟨⟨_,by rw[e1],?_⟩,h2⟩
   rw[e2]
   exact World.ownsRow_nil _ _ _ _
  generalize CoreRet p w=Po at HPe⊢
  simp only[probVal_eq] at HV1⊢
  clear hE hs hG hT hd hh HV0 hp
  obtain⟨vs,hard,soft,ds,gs⟩:=p
  obtain⟨av,cv,ah,ch,ao,co,ad,cd,ag,cg⟩:=x
  simp only at HV1⊢
  have HV:=Lib.hid (HV1.out (w.alloc (.cells #[.slice av vs.length cv,.slice ah hard.length ch,.slice ao soft.length co,.slice ad ds.length cd,.slice ag gs.length cg] 27)) ((Below.refl _ _).alloc (Nat.le_refl _) _))
  clear HV1
  go_enter Tryz.func22, Tryz.ntmps22
  go_wp2_with fail
  refine HV.out.mono ?_
  rintro e w1 ⟨⟨n,rfl,hn⟩,hb1⟩
  simp only[World.size_alloc] at hb1
  go_wp2_with fail
  exact HPe.out _ (boxW _ hb1)
end Go.Proofs.YtcplmcjbkpmhdaaGreatDoor
