/- soft: union. -/
import Derived.Test.YtcplmcjbkpmhdaaGreatDoorSA
import Derived.Deep.RegionWith
import Derived.Test.YtcplmcjbkpmhdaaGreatDoorKQ
set_option linter.unusedSimpArgs false
set_option linter.unusedVariables false
set_option linter.unnecessarySimpa false
namespace Go.Proofs.YtcplmcjbkpmhdaaGreatDoor
open Go.RowKit
attribute [local go_sem ↓] Go.wp_at_zero Go.wp_at_succ
def lenV:Value→Nat
 | .slice _ n _=>n
 | _=>0
theorem put4_blk {w:World} {b:Nat} {a0 a1 a2 a3:Value} {t:TypeId} (h:w.heap[b]? = some (.cells #[a0,a1,a2,a3] t (0,0))) (v0 v1 v2 v3:Value) :
  ((((w.setCell ⟨b,0,none⟩ v0).setCell ⟨b,1,none⟩ v1).setCell ⟨b,2,none⟩ v2).setCell ⟨b,3,none⟩ v3).heap[b]? = some (.cells #[v0,v1,v2,v3] t (0,0)):=by
 have hk4:=heap_setCell_same _ _ 3 _ _ v3 (heap_setCell_same _ _ 2 _ _ v2 (heap_setCell_same _ _ 1 _ _ v1 (heap_setCell_same _ _ 0 _ _ v0 h)))
 simpa using hk4
theorem ExOn.narrow {S S':Nat→Prop} {w:World} {e:Ex} {a:Option Addr} {cap:Nat} (h:ExOn S w e a cap) (hS:∀ k,S k→k < w.heap.size→S' k):ExOn S' w e a cap:=fun w' h'=>h w' (fun p v hp hc=>h' p v (hS _ hp (World.block_lt_of_cell? _ _ hc)) hc)
theorem agree_alloc {S:Nat→Prop} (w:World) (o:Obj):Agree S w (w.alloc o):=agree_below ((Below.refl _ _).alloc (Nat.le_refl _) o)
theorem agree_put4 {S:Nat→Prop} {w:World} {b:Nat} (hb:¬ S b) (v0 v1 v2 v3:Value):Agree S w ((((w.setCell ⟨b,0,none⟩ v0).setCell ⟨b,1,none⟩ v1).setCell ⟨b,2,none⟩ v2).setCell ⟨b,3,none⟩ v3) :=
 (((agree_set hb 0 v0).trans (agree_set hb 1 v1)).trans (agree_set hb 2 v2)).trans (agree_set hb 3 v3)
theorem exOn_pair {S:Nat→Prop} {w:World} {e x:Ex} {ea xa:Option Addr} {ec xc:Nat} (he:ExOn S w e ea ec) (hx:ExOn S w x xa xc) (hk:S w.heap.size) :
  ExOn S (w.alloc (.cells #[.int .i64 e.op,.int .i64 e.n,.string e.name,.slice ea e.args.length ec,.int .i64 x.op,.int .i64 x.n,.string x.name,.slice xa x.args.length xc] 55)) (eE e x) (some ⟨w.heap.size,0,none⟩) 2:=by
 intro w' h'
 refine⟨show (⟨#[]⟩:ByteArray).size≤1073741824 by decide,?_⟩
 have ho:=World.ownsRow_lit (base:=w.heap.size) (e:=55) (size:=4) w #[.int .i64 e.op,.int .i64 e.n,.string e.name,.slice ea e.args.length ec,.int .i64 x.op,.int .i64 x.n,.string x.name,.slice xa x.args.length xc] 2 (Nat.le_refl _) (by unfold maxLen;omega) rfl
 exact exsOn_own (S:=S) (l:=[e,x]) ho ((he.keep (agree_alloc _ _)).row.append (hx.keep (agree_alloc _ _)).row) (fun g hg=>by
  have:w.heap.size=g:=by simpa [Value.ownBlock] using hg
  rw[← this];exact hk) (by simp) w' h'
theorem chE_succ (s:ByteArray) (bs:List Nat) (c:Nat) (h:0 < c):chE s bs (c+1)=eE (chE s bs c) (iE s ((bs.drop (32 * c)).take 32)):=by
 show (if c=0 then _ else _)=_
 rw[if_neg (by omega)]
theorem chE_one (s:ByteArray) (bs:List Nat):chE s bs 1=iE s (bs.take 32):=rfl
theorem RngIn.take {w:World} {bs:List Nat} {n:Nat} {a:Option Addr} {cap:Nat} (h:RngIn w bs n a cap) {m:Nat} (hm:m≤n):RngIn w (bs.take (2 * m)) m a cap:=by
 refine⟨by rw[List.length_take,h.1];omega,by have:=h.2.1;omega,by have:=h.2.2.1;omega,?_⟩
 rcases h.2.2.2 with h0 | ⟨b,off,ha,hi⟩
 ·exact Or.inl (by omega)
 ·refine Or.inr ⟨b,off,ha,fun i hk j hj=>?_⟩
  rw[hi i (by omega) j hj,List.map_take,List.getElem?_take,if_pos (by omega)]
theorem RngIn.drop {w:World} {bs:List Nat} {n:Nat} {b off cap:Nat} (h:RngIn w bs n (some ⟨b,off,none⟩) cap) {m:Nat} (hm:m≤n):RngIn w (bs.drop (2 * m)) (n - m) (some ⟨b,off+m * 2,none⟩) (cap - m):=by
 refine⟨by rw[List.length_drop,h.1];omega,by have:=h.2.1;omega,by have:=h.2.2.1;omega,?_⟩
 by_cases h0:n - m=0
 ·exact Or.inl h0
 ·refine Or.inr ⟨b,off+m * 2,rfl,fun i hk j hj=>?_⟩
  have hq:=SliceIn.at h.2 rfl (show m+i < n by omega) j hj
  rw[show off+m * 2+i * 2+j=off+(m+i) * 2+j from by omega,hq,List.map_drop,List.getElem?_drop]
  congr 1
  omega
theorem RngIn.empty {w:World} {bs:List Nat} {n:Nat} {a:Option Addr} {cap:Nat} (h:RngIn w bs n a cap) {m:Nat} (hm:m=n) (a':Option Addr) (c':Nat):RngIn w (bs.drop (2 * m)) (n - m) a' c':=by
 subst hm
 rw[Nat.sub_self]
 exact⟨by rw[List.length_drop,h.1];omega,Nat.zero_le _,by omega,Or.inl rfl⟩
set_option maxRecDepth 100000 in
set_option maxHeartbeats 4000000 in
theorem union_any (s:ByteArray) (bs:List Nat) (n:Nat) (a:Option Addr) (cap:Nat) (w:World) (hs:s.size≤1073741824) (hR:RngIn w bs n a cap) (hn:n≤65536) :
  Calls Tryz.prog 144 #[.string s,.slice a n cap] w fun e w'=>ExRet w (unE s bs) e w':=by
 have hbl:=hR.1
 by_cases h0:n=0
 ·subst h0
  obtain rfl:bs=[]:=List.eq_nil_of_length_eq_zero (by omega)
  clear hR
  have HN:=Lib.hid (softNumber_any 0 (w.alloc (.cells #[.int .i64 0,.int .i64 0,.string ⟨#[]⟩,.slice none 0 0] 55)))
  go_enter Tryz.func144, Tryz.ntmps144
  go_wp2_with fail
  refine HN.out.mono ?_
  rintro e w1 ⟨rfl,hb1⟩
  have HK:=Lib.hid ((hb1.block w.heap.size (by simp)).trans (heap_alloc_new' _ _))
  have c0:w1.cell? ⟨w.heap.size,0,none⟩=some (.int .i64 0):=by simp[World.cell?,HK.out]
  have c1:w1.cell? ⟨w.heap.size,1,none⟩=some (.int .i64 0):=by simp[World.cell?,HK.out]
  have c2:w1.cell? ⟨w.heap.size,2,none⟩=some (.string ⟨#[]⟩):=by simp[World.cell?,HK.out]
  have c3:w1.cell? ⟨w.heap.size,3,none⟩=some (.slice none 0 0):=by simp[World.cell?,HK.out]
  have f0:∀ j,w1.frozen? ⟨w.heap.size,j,none⟩=false:=fun j=>by simp[World.frozen?,HK.out]
  have HB1:=Lib.hid (((Below.refl w.heap.size w).alloc (Nat.le_refl _) (.cells #[.int .i64 0,.int .i64 0,.string ⟨#[]⟩,.slice none 0 0] 55)).trans (hb1.mono (by simp)))
  clear hb1
  go_wp2_with fail
  have hk4:=put4_blk HK.out (.int .i64 1) (.int .i64 0) (.string ⟨#[]⟩) (.slice none 0 0)
  refine bodyPost_ret (v:=.agg #[.int .i64 1,.int .i64 0,.string ⟨#[]⟩,.slice none 0 0]) (by simp[results, Tryz.results144,World.cell?,hk4,go_sem]) rfl ?_
  exact⟨none,0,rfl,exOn_leaf _ _ 1 0 ⟨#[]⟩ (by decide),(((HB1.out.setCell (Nat.le_refl _) _).setCell (Nat.le_refl _) _).setCell (Nat.le_refl _) _).setCell (Nat.le_refl _) _⟩
 ·have hnb:((n:Int) == 0)=false:=by simp;omega
  obtain⟨b,off,ha⟩:=hR.2.addr.resolve_left h0
  subst ha
  have hcap:=hR.2.1
  have hmin:min (16:Int) (n:Int)=((min 16 n:Nat):Int):=by omega
  have hm1:min 16 n≤16:=by omega
  have hm2:min 16 n≤n:=by omega
  have hm3:1≤min 16 n:=by omega
  have HTk:Hid (bs.take (2 * min 16 n)=bs.take 32):=by
   show _=_
   by_cases h:16≤n
   ·rw[Nat.min_eq_left h]
   ·rw[Nat.min_eq_right (by omega),List.take_of_length_le (by omega),List.take_of_length_le (by omega)]
  have HDr:Hid (bs.drop (2 * min 16 n)=bs.drop (32 * 1)):=by
   show _=_
   by_cases h:16≤n
   ·rw[Nat.min_eq_left h]
   ·rw[Nat.min_eq_right (by omega),List.drop_of_length_le (by omega),List.drop_of_length_le (by omega)]
  have HRm:Hid (n - min 16 n=n - 16 * 1):=by show _=_;omega
  generalize min 16 n=m at hmin hm1 hm2 hm3 HTk HDr HRm
  have HR:=Lib.hid hR
  have HI0:=Lib.hid (inside_any s _ m (some ⟨b,off,none⟩) cap (w.alloc (.cells #[.int .i64 0,.int .i64 0,.string ⟨#[]⟩,.slice none 0 0] 55)) hs ((hR.take hm2).keep (keeps_of_below ((Below.refl _ _).alloc (Nat.le_refl _) _))) (by omega))
  rw[HTk.out] at HI0
  have HD0:Hid (∃ a' c',(cap≠m→a'=some (⟨b,off+m * 2,none⟩:Addr)∧c'=cap - m)∧(cap=m→a'=some (⟨b,off,none⟩:Addr)∧c'=0)∧RngIn w (bs.drop (32 * 1)) (n - 16 * 1) a' c'):=by
   by_cases hcm:cap=m
   ·refine⟨some ⟨b,off,none⟩,0,fun h=>absurd hcm h,fun _=>⟨rfl,rfl⟩,?_⟩
    rw[← HDr.out,← HRm.out]
    exact hR.empty (by omega) _ _
   ·refine⟨some ⟨b,off+m * 2,none⟩,cap - m,fun _=>⟨rfl,rfl⟩,fun h=>absurd h hcm,?_⟩
    rw[← HDr.out,← HRm.out]
    exact hR.drop hm2
  clear hR
  go_enter Tryz.func144, Tryz.ntmps144
  go_wp2_with fail
  refine HI0.out.mono ?_
  rintro e w1 ⟨a1,c1,rfl,hE1,hb1⟩
  have HE1:=Lib.hid (hE1.narrow (S':=fun k=>w.heap.size+1≤k∧k≠w1.heap.size) (fun k h1 h2=>⟨by simpa using h1,by omega⟩))
  have HB1:Hid (Below (w.heap.size+1) (w.alloc (.cells #[.int .i64 0,.int .i64 0,.string ⟨#[]⟩,.slice none 0 0] 55)) w1):=by have:=hb1;rw[World.size_alloc] at this;exact this
  have HK1:Hid (chE s bs 1=iE s (bs.take 32)):=rfl
  clear hb1 hE1
  rw[← HK1.out] at HE1⊢
  generalize hee:chE s bs 1=e1 at HE1⊢
  have HEE:=Lib.hid hee
  clear hee
  obtain⟨op1,n1,s1,args1⟩:=e1
  simp only[Ex.op_mk,Ex.n_mk,Ex.name_mk,Ex.args_mk]
  obtain⟨a',c',hd1,hd2,hRd⟩:=HD0.out
  have HRd:=Lib.hid hRd
  have HB2:Hid (Below (w.heap.size+1) (w.alloc (.cells #[.int .i64 0,.int .i64 0,.string ⟨#[]⟩,.slice none 0 0] 55)) (w1.alloc (.cells #[.int .i64 op1,.int .i64 n1,.string s1,.slice a1 args1.length c1] 55))):=HB1.out.alloc (by have:=HB1.out.size;simpa using this) _
  have HE2:=Lib.hid (HE1.out.keep (agree_alloc w1 (.cells #[.int .i64 op1,.int .i64 n1,.string s1,.slice a1 args1.length c1] 55)))
  have HK2:=Lib.hid (heap_alloc_new' w1 (.cells #[.int .i64 op1,.int .i64 n1,.string s1,.slice a1 args1.length c1] 55))
  have hz1:=HB1.out.size
  simp only[World.size_alloc] at hz1
  have hnlt:(n:Nat) - m=n - 16 * 1:=HRm.out
  have HNM:=Lib.hid hnlt
  clear hnlt hRd
  by_cases hcm:cap=m
  ·obtain⟨rfl,rfl⟩:=hd2 hcm
   have hnm:n - m=0:=by omega
   clear hd1 hd2
   subst hcm
   go_wp2_with fail
   go_loopw [1,5] (fun l _ wr=>∃ (c:Nat) (aa:Option Addr) (r cc:Nat) (e:Ex) (ea:Option Addr) (ec:Nat),l=.slice aa r cc∧Hid (r=n - 16 * c)∧1≤c∧Hid (16 * (c - 1) < n)∧Hid (RngIn w (bs.drop (32 * c)) r aa cc)∧Hid (chE s bs c=e)∧Hid (ExOn (fun k=>w.heap.size+1≤k∧k≠w1.heap.size) wr e ea ec)∧Hid (wr.heap[w1.heap.size]? = some (.cells #[.int .i64 e.op,.int .i64 e.n,.string e.name,.slice ea e.args.length ec] 55 (0,0)))∧Hid (Below (w.heap.size+1) (w.alloc (.cells #[.int .i64 0,.int .i64 0,.string ⟨#[]⟩,.slice none 0 0] 55)) wr)) (fun l _ _=>lenV l)
   case atStart=>exact⟨1,_,_,_,.mk op1 n1 s1 args1,a1,c1,rfl,(show 0=n - 16 * 1 by have:=HNM.out;omega),Nat.le_refl _,(show 16 * (1 - 1) < n by omega),by have h:=HRd.out;rw[← HNM.out,hnm] at h;exact h,HEE.out,HE2.out,HK2.out,HB2.out⟩
   case round =>
    obtain⟨c,aa,r,cc,e,ea,ec,rfl,Hr,hc1,Hcn,HRg,HEc,HEi,HKc,HBc⟩:=hrel
    have hblk:=lt_of_block HKc.out
    have hrn:r≤n:=by have:=Hr.out;omega
    have e0:wr.cell? ⟨w1.heap.size,0,none⟩=some (.int .i64 e.op):=by simp[World.cell?,HKc.out]
    have e1:wr.cell? ⟨w1.heap.size,1,none⟩=some (.int .i64 e.n):=by simp[World.cell?,HKc.out]
    have e2:wr.cell? ⟨w1.heap.size,2,none⟩=some (.string e.name):=by simp[World.cell?,HKc.out]
    have e3:wr.cell? ⟨w1.heap.size,3,none⟩=some (.slice ea e.args.length ec):=by simp[World.cell?,HKc.out]
    have ef:∀ j,wr.frozen? ⟨w1.heap.size,j,none⟩=false:=fun j=>by simp[World.frozen?,HKc.out]
    have hzr:=HBc.out.size
    simp only[World.size_alloc] at hzr
    by_cases hr0:r=0
    ·subst hr0
     have HLast:Hid (chE s bs c=unE s bs):=by show _=_;unfold unE;congr 1;have h1:=Hr.out;have h2:=Hcn.out;omega
     have HKr:=Lib.hid ((HBc.out.block w.heap.size (by omega)).trans (heap_alloc_new' _ _))
     have r0:=box_cell HBc.out 0
     have r1:=box_cell HBc.out 1
     have r2:=box_cell HBc.out 2
     have r3:=box_cell HBc.out 3
     (try simp at r0 r1 r2 r3)
     have rf:=fun j=>box_free HBc.out j
     have HBw:=Lib.hid (boxW _ HBc.out)
     generalize hop:e.op=op9 at e0
     generalize hnn:e.n=n9 at e1
     generalize hnm:e.name=nm9 at e2
     generalize hal:e.args.length=al9 at e3
     have HOp:=Lib.hid (⟨hop,hnn,hnm,hal⟩:_∧_∧_∧_)
     clear hop hnn hnm hal
     go_wp2_with fail
     have hk4:=put4_blk HKr.out (.int .i64 op9) (.int .i64 n9) (.string nm9) (.slice ea al9 ec)
     refine bodyPost_ret (v:=.agg #[.int .i64 op9,.int .i64 n9,.string nm9,.slice ea al9 ec]) (by simp[results, Tryz.results144,World.cell?,hk4,go_sem]) rfl ?_
     obtain⟨rfl,rfl,rfl,rfl⟩:=HOp.out
     have he:e=unE s bs:=HEc.out.symm.trans HLast.out
     rw[← he]
     exact⟨ea,ec,rfl,(HEi.out.keep (agree_put4 (fun h=>by have:=h.1;omega) _ _ _ _)).mono (fun k h=>by have:=h.1;show w.heap.size≤k;omega),(((HBw.out.setCell (Nat.le_refl _) _).setCell (Nat.le_refl _) _).setCell (Nat.le_refl _) _).setCell (Nat.le_refl _) _⟩
    ·obtain⟨b9,off9,ha9⟩:=HRg.out.2.addr.resolve_left hr0
     subst ha9
     have hcap9:=HRg.out.2.1
     have hmin9:min (16:Int) (r:Int)=((min 16 r:Nat):Int):=by omega
     have hk1:min 16 r≤16:=by omega
     have hk2:min 16 r≤r:=by omega
     have hk3:1≤min 16 r:=by omega
     have hbl9:=HRg.out.1
     have HTk9:Hid ((bs.drop (32 * c)).take (2 * min 16 r)=(bs.drop (32 * c)).take 32):=by
      show _=_
      by_cases h:16≤r
      ·rw[Nat.min_eq_left h]
      ·rw[Nat.min_eq_right (by omega),List.take_of_length_le (by omega),List.take_of_length_le (by omega)]
     have HDr9:Hid ((bs.drop (32 * c)).drop (2 * min 16 r)=bs.drop (32 * (c+1))):=by
      show _=_
      rw[List.drop_drop]
      by_cases h:16≤r
      ·rw[Nat.min_eq_left h];congr 1
      ·rw[List.drop_of_length_le (by rw[List.length_drop] at hbl9;omega),List.drop_of_length_le (by rw[List.length_drop] at hbl9;omega)]
     have HR9:Hid (r - min 16 r=n - 16 * (c+1)):=by show _=_;have:=Hr.out;omega
     have HIc0:=Lib.hid (fun m9 (h9:m9≤r) W (hW:Below wr.heap.size wr W)=>inside_any s _ m9 _ cc W hs ((HRg.out.take h9).keep (keeps_of_below ((boxW _ HBc.out).trans (hW.mono (boxW _ HBc.out).size)))) (by omega))
     have HIc:=Lib.hid (HIc0.out (min 16 r) hk2)
     rw[HTk9.out] at HIc
     have HDp:=Lib.hid (fun (h:cc≠min 16 r)=>HRg.out.drop (m:=min 16 r) hk2)
     rw[HDr9.out] at HDp
     have HEm:=Lib.hid (fun (h:min 16 r=r) a' c'=>HRg.out.empty (m:=min 16 r) h a' c')
     rw[HDr9.out] at HEm
     generalize min 16 r=m9 at hmin9 hk1 hk2 hk3 HR9 HIc HDp HEm
     have HIf:=Lib.hid (fun W (hW:Below wr.heap.size wr W)=>(HIc.out W hW).mono (R':=fun e w'=>∃ ax cx,e=.returned (.agg #[.int .i64 23,.int .i64 0,.string ⟨#[]⟩,.slice ax (iE s ((bs.drop (32 * c)).take 32)).args.length cx])∧Hid (ExOn (fun k=>w.heap.size+1≤k∧k≠w1.heap.size) w' (iE s ((bs.drop (32 * c)).take 32)) ax cx)∧Below wr.heap.size wr w'∧(∀ b o,b < W.heap.size→w'.cell? ⟨b,o,none⟩=W.cell? ⟨b,o,none⟩)∧(∀ b o,b < W.heap.size→w'.frozen? ⟨b,o,none⟩=W.frozen? ⟨b,o,none⟩)∧W.heap.size≤w'.heap.size) fun e w' ⟨ax,cx,h1,h2,h3⟩=>⟨ax,cx,h1,h2.mono (fun k hk=>⟨by have:=hW.size;show w.heap.size+1≤k;have hk':W.heap.size≤k:=hk;omega,by have:=hW.size;have hk':W.heap.size≤k:=hk;omega⟩),hW.trans (h3.mono hW.size),(bcell h3).1,(bcell h3).2,h3.size⟩)
     generalize hal9:(iE s ((bs.drop (32 * c)).take 32)).args.length=al9 at HIf
     have Hal9:=Lib.hid hal9
     clear hal9 HIc HIc0
     generalize hop:e.op=op9 at e0
     generalize hnn:e.n=n9 at e1
     generalize hnm:e.name=nm9 at e2
     generalize hel:e.args.length=el9 at e3
     have HOp:=Lib.hid (⟨hop,hnn,hnm,hel⟩:_∧_∧_∧_)
     clear hop hnn hnm hel
     have hne9:w1.heap.size≠wr.heap.size:=by omega
     have hcc9:cc=m9∨m9 < cc:=by omega
     rcases hcc9 with rfl | hcc9
     all_goals
      go_wp2_with fail
      go_region_with ((go_at_call 196;(with_reducible refine(HIf.out _ (by first | assumption | exact bel)).mono ?_);rintro e9 wn ⟨ax,cx,rfl,hxn,hbn,hcn,hfn,hzn⟩;(try simp only[World.size_drew] at hzn);have hlt9:w1.heap.size < wn.heap.size:=(by omega);have hnn9:w1.heap.size≠wn.heap.size:=(by omega);have k0:=(hcn w1.heap.size 0 (by first | exact hblk | omega | (simp;omega))).trans e0;have k1:=(hcn w1.heap.size 1 (by first | exact hblk | omega | (simp;omega))).trans e1;have k2:=(hcn w1.heap.size 2 (by first | exact hblk | omega | (simp;omega))).trans e2;have k3:=(hcn w1.heap.size 3 (by first | exact hblk | omega | (simp;omega))).trans e3;have kf:=fun j=>(hfn w1.heap.size j (by first | exact hblk | omega | (simp;omega))).trans (ef j);clear hcn hfn))
      all_goals
       have HXn:=Lib.hid hxn
       have HKn:Hid ((((((wn.setCell ⟨w1.heap.size,0,none⟩ (.int .i64 20)).setCell ⟨w1.heap.size,1,none⟩ (.int .i64 0)).setCell ⟨w1.heap.size,2,none⟩ (.string ⟨#[]⟩)).setCell ⟨w1.heap.size,3,none⟩ (.slice (some ⟨wn.heap.size,0,none⟩) 2 2)).alloc (.cells #[.int .i64 op9,.int .i64 n9,.string nm9,.slice ea el9 ec,.int .i64 23,.int .i64 0,.string ⟨#[]⟩,.slice ax al9 cx] 55)).heap[w1.heap.size]? = some (.cells #[.int .i64 20,.int .i64 0,.string ⟨#[]⟩,.slice (some ⟨wn.heap.size,0,none⟩) 2 2] 55 (0,0))):=(Below.heap_alloc _ _ _ (by simp only[World.size_setCell];exact hlt9)).trans (put4_blk ((hbn.block _ hblk).trans HKc.out) _ _ _ _)
       have HBn:Hid (Below (w.heap.size+1) (w.alloc (.cells #[.int .i64 0,.int .i64 0,.string ⟨#[]⟩,.slice none 0 0] 55)) (((((wn.setCell ⟨w1.heap.size,0,none⟩ (.int .i64 20)).setCell ⟨w1.heap.size,1,none⟩ (.int .i64 0)).setCell ⟨w1.heap.size,2,none⟩ (.string ⟨#[]⟩)).setCell ⟨w1.heap.size,3,none⟩ (.slice (some ⟨wn.heap.size,0,none⟩) 2 2)).alloc (.cells #[.int .i64 op9,.int .i64 n9,.string nm9,.slice ea el9 ec,.int .i64 23,.int .i64 0,.string ⟨#[]⟩,.slice ax al9 cx] 55))):=(((((HBc.out.trans (hbn.mono (by simpa using hzr))).setCell hz1 _).setCell hz1 _).setCell hz1 _).setCell hz1 _).alloc (by simp only[World.size_setCell];omega) _
       have HEn:Hid (ExOn (fun k=>w.heap.size+1≤k∧k≠w1.heap.size) (((((wn.setCell ⟨w1.heap.size,0,none⟩ (.int .i64 20)).setCell ⟨w1.heap.size,1,none⟩ (.int .i64 0)).setCell ⟨w1.heap.size,2,none⟩ (.string ⟨#[]⟩)).setCell ⟨w1.heap.size,3,none⟩ (.slice (some ⟨wn.heap.size,0,none⟩) 2 2)).alloc (.cells #[.int .i64 op9,.int .i64 n9,.string nm9,.slice ea el9 ec,.int .i64 23,.int .i64 0,.string ⟨#[]⟩,.slice ax al9 cx] 55)) (eE e (iE s ((bs.drop (32 * c)).take 32))) (some ⟨wn.heap.size,0,none⟩) 2):=by
        obtain⟨rfl,rfl,rfl,rfl⟩:=HOp.out
        obtain rfl:=Hal9.out
        have h:=exOn_pair (w:=((((wn.setCell ⟨w1.heap.size,0,none⟩ (.int .i64 20)).setCell ⟨w1.heap.size,1,none⟩ (.int .i64 0)).setCell ⟨w1.heap.size,2,none⟩ (.string ⟨#[]⟩)).setCell ⟨w1.heap.size,3,none⟩ (.slice (some ⟨wn.heap.size,0,none⟩) 2 2))) ((HEi.out.keep (agree_below hbn)).keep (agree_put4 (fun h=>h.2 rfl) _ _ _ _)) (HXn.out.out.keep (agree_put4 (fun h=>h.2 rfl) _ _ _ _)) (by simp only[World.size_setCell];exact⟨by omega,by omega⟩)
        simp only[World.size_setCell] at h
        exact h
       have HEc1:Hid (chE s bs (c+1)=eE e (iE s ((bs.drop (32 * c)).take 32))):=by show _=_;rw[chE_succ s bs c (by omega),HEc.out]
       clear k0 k1 k2 k3 kf hxn
       go_wp2_with fail
       go_roundw
       case rel=>exact⟨c+1,_,_,_,eE e (iE s ((bs.drop (32 * c)).take 32)),some ⟨wn.heap.size,0,none⟩,2,rfl,by first | exact HR9.out | (have h:=HR9.out;show 0=_;omega),by omega,(show 16 * (c+1 - 1) < n by have:=Hr.out;omega),by first | exact HDp.out (by omega) | (have h:=HEm.out (by omega) (some ⟨b9,off9,none⟩) 0;rw[show r - cc=0 from by omega] at h;exact h),HEc1.out,HEn.out,HKn.out,HBn.out⟩
       case measure=>simp[lenV];omega
  ·obtain⟨rfl,rfl⟩:=hd1 hcm
   have hcm':m < cap:=by omega
   clear hd1 hd2
   go_wp2_with fail
   go_loopw [1,5] (fun l _ wr=>∃ (c:Nat) (aa:Option Addr) (r cc:Nat) (e:Ex) (ea:Option Addr) (ec:Nat),l=.slice aa r cc∧Hid (r=n - 16 * c)∧1≤c∧Hid (16 * (c - 1) < n)∧Hid (RngIn w (bs.drop (32 * c)) r aa cc)∧Hid (chE s bs c=e)∧Hid (ExOn (fun k=>w.heap.size+1≤k∧k≠w1.heap.size) wr e ea ec)∧Hid (wr.heap[w1.heap.size]? = some (.cells #[.int .i64 e.op,.int .i64 e.n,.string e.name,.slice ea e.args.length ec] 55 (0,0)))∧Hid (Below (w.heap.size+1) (w.alloc (.cells #[.int .i64 0,.int .i64 0,.string ⟨#[]⟩,.slice none 0 0] 55)) wr)) (fun l _ _=>lenV l)
   case atStart=>exact⟨1,_,_,_,.mk op1 n1 s1 args1,a1,c1,rfl,HNM.out,Nat.le_refl _,(show 16 * (1 - 1) < n by omega),by have h:=HRd.out;rw[← HNM.out] at h;exact h,HEE.out,HE2.out,HK2.out,HB2.out⟩
   case round =>
    obtain⟨c,aa,r,cc,e,ea,ec,rfl,Hr,hc1,Hcn,HRg,HEc,HEi,HKc,HBc⟩:=hrel
    have hblk:=lt_of_block HKc.out
    have hrn:r≤n:=by have:=Hr.out;omega
    have e0:wr.cell? ⟨w1.heap.size,0,none⟩=some (.int .i64 e.op):=by simp[World.cell?,HKc.out]
    have e1:wr.cell? ⟨w1.heap.size,1,none⟩=some (.int .i64 e.n):=by simp[World.cell?,HKc.out]
    have e2:wr.cell? ⟨w1.heap.size,2,none⟩=some (.string e.name):=by simp[World.cell?,HKc.out]
    have e3:wr.cell? ⟨w1.heap.size,3,none⟩=some (.slice ea e.args.length ec):=by simp[World.cell?,HKc.out]
    have ef:∀ j,wr.frozen? ⟨w1.heap.size,j,none⟩=false:=fun j=>by simp[World.frozen?,HKc.out]
    have hzr:=HBc.out.size
    simp only[World.size_alloc] at hzr
    by_cases hr0:r=0
    ·subst hr0
     have HLast:Hid (chE s bs c=unE s bs):=by show _=_;unfold unE;congr 1;have h1:=Hr.out;have h2:=Hcn.out;omega
     have HKr:=Lib.hid ((HBc.out.block w.heap.size (by omega)).trans (heap_alloc_new' _ _))
     have r0:=box_cell HBc.out 0
     have r1:=box_cell HBc.out 1
     have r2:=box_cell HBc.out 2
     have r3:=box_cell HBc.out 3
     (try simp at r0 r1 r2 r3)
     have rf:=fun j=>box_free HBc.out j
     have HBw:=Lib.hid (boxW _ HBc.out)
     generalize hop:e.op=op9 at e0
     generalize hnn:e.n=n9 at e1
     generalize hnm:e.name=nm9 at e2
     generalize hal:e.args.length=al9 at e3
     have HOp:=Lib.hid (⟨hop,hnn,hnm,hal⟩:_∧_∧_∧_)
     clear hop hnn hnm hal
     go_wp2_with fail
     have hk4:=put4_blk HKr.out (.int .i64 op9) (.int .i64 n9) (.string nm9) (.slice ea al9 ec)
     refine bodyPost_ret (v:=.agg #[.int .i64 op9,.int .i64 n9,.string nm9,.slice ea al9 ec]) (by simp[results, Tryz.results144,World.cell?,hk4,go_sem]) rfl ?_
     obtain⟨rfl,rfl,rfl,rfl⟩:=HOp.out
     have he:e=unE s bs:=HEc.out.symm.trans HLast.out
     rw[← he]
     exact⟨ea,ec,rfl,(HEi.out.keep (agree_put4 (fun h=>by have:=h.1;omega) _ _ _ _)).mono (fun k h=>by have:=h.1;show w.heap.size≤k;omega),(((HBw.out.setCell (Nat.le_refl _) _).setCell (Nat.le_refl _) _).setCell (Nat.le_refl _) _).setCell (Nat.le_refl _) _⟩
    ·obtain⟨b9,off9,ha9⟩:=HRg.out.2.addr.resolve_left hr0
     subst ha9
     have hcap9:=HRg.out.2.1
     have hmin9:min (16:Int) (r:Int)=((min 16 r:Nat):Int):=by omega
     have hk1:min 16 r≤16:=by omega
     have hk2:min 16 r≤r:=by omega
     have hk3:1≤min 16 r:=by omega
     have hbl9:=HRg.out.1
     have HTk9:Hid ((bs.drop (32 * c)).take (2 * min 16 r)=(bs.drop (32 * c)).take 32):=by
      show _=_
      by_cases h:16≤r
      ·rw[Nat.min_eq_left h]
      ·rw[Nat.min_eq_right (by omega),List.take_of_length_le (by omega),List.take_of_length_le (by omega)]
     have HDr9:Hid ((bs.drop (32 * c)).drop (2 * min 16 r)=bs.drop (32 * (c+1))):=by
      show _=_
      rw[List.drop_drop]
      by_cases h:16≤r
      ·rw[Nat.min_eq_left h];congr 1
      ·rw[List.drop_of_length_le (by rw[List.length_drop] at hbl9;omega),List.drop_of_length_le (by rw[List.length_drop] at hbl9;omega)]
     have HR9:Hid (r - min 16 r=n - 16 * (c+1)):=by show _=_;have:=Hr.out;omega
     have HIc0:=Lib.hid (fun m9 (h9:m9≤r) W (hW:Below wr.heap.size wr W)=>inside_any s _ m9 _ cc W hs ((HRg.out.take h9).keep (keeps_of_below ((boxW _ HBc.out).trans (hW.mono (boxW _ HBc.out).size)))) (by omega))
     have HIc:=Lib.hid (HIc0.out (min 16 r) hk2)
     rw[HTk9.out] at HIc
     have HDp:=Lib.hid (fun (h:cc≠min 16 r)=>HRg.out.drop (m:=min 16 r) hk2)
     rw[HDr9.out] at HDp
     have HEm:=Lib.hid (fun (h:min 16 r=r) a' c'=>HRg.out.empty (m:=min 16 r) h a' c')
     rw[HDr9.out] at HEm
     generalize min 16 r=m9 at hmin9 hk1 hk2 hk3 HR9 HIc HDp HEm
     have HIf:=Lib.hid (fun W (hW:Below wr.heap.size wr W)=>(HIc.out W hW).mono (R':=fun e w'=>∃ ax cx,e=.returned (.agg #[.int .i64 23,.int .i64 0,.string ⟨#[]⟩,.slice ax (iE s ((bs.drop (32 * c)).take 32)).args.length cx])∧Hid (ExOn (fun k=>w.heap.size+1≤k∧k≠w1.heap.size) w' (iE s ((bs.drop (32 * c)).take 32)) ax cx)∧Below wr.heap.size wr w'∧(∀ b o,b < W.heap.size→w'.cell? ⟨b,o,none⟩=W.cell? ⟨b,o,none⟩)∧(∀ b o,b < W.heap.size→w'.frozen? ⟨b,o,none⟩=W.frozen? ⟨b,o,none⟩)∧W.heap.size≤w'.heap.size) fun e w' ⟨ax,cx,h1,h2,h3⟩=>⟨ax,cx,h1,h2.mono (fun k hk=>⟨by have:=hW.size;show w.heap.size+1≤k;have hk':W.heap.size≤k:=hk;omega,by have:=hW.size;have hk':W.heap.size≤k:=hk;omega⟩),hW.trans (h3.mono hW.size),(bcell h3).1,(bcell h3).2,h3.size⟩)
     generalize hal9:(iE s ((bs.drop (32 * c)).take 32)).args.length=al9 at HIf
     have Hal9:=Lib.hid hal9
     clear hal9 HIc HIc0
     generalize hop:e.op=op9 at e0
     generalize hnn:e.n=n9 at e1
     generalize hnm:e.name=nm9 at e2
     generalize hel:e.args.length=el9 at e3
     have HOp:=Lib.hid (⟨hop,hnn,hnm,hel⟩:_∧_∧_∧_)
     clear hop hnn hnm hel
     have hne9:w1.heap.size≠wr.heap.size:=by omega
     have hcc9:cc=m9∨m9 < cc:=by omega
     rcases hcc9 with rfl | hcc9
     all_goals
      go_wp2_with fail
      go_region_with ((go_at_call 196;(with_reducible refine(HIf.out _ (by first | assumption | exact bel)).mono ?_);rintro e9 wn ⟨ax,cx,rfl,hxn,hbn,hcn,hfn,hzn⟩;(try simp only[World.size_drew] at hzn);have hlt9:w1.heap.size < wn.heap.size:=(by omega);have hnn9:w1.heap.size≠wn.heap.size:=(by omega);have k0:=(hcn w1.heap.size 0 (by first | exact hblk | omega | (simp;omega))).trans e0;have k1:=(hcn w1.heap.size 1 (by first | exact hblk | omega | (simp;omega))).trans e1;have k2:=(hcn w1.heap.size 2 (by first | exact hblk | omega | (simp;omega))).trans e2;have k3:=(hcn w1.heap.size 3 (by first | exact hblk | omega | (simp;omega))).trans e3;have kf:=fun j=>(hfn w1.heap.size j (by first | exact hblk | omega | (simp;omega))).trans (ef j);clear hcn hfn))
      all_goals
       have HXn:=Lib.hid hxn
       have HKn:Hid ((((((wn.setCell ⟨w1.heap.size,0,none⟩ (.int .i64 20)).setCell ⟨w1.heap.size,1,none⟩ (.int .i64 0)).setCell ⟨w1.heap.size,2,none⟩ (.string ⟨#[]⟩)).setCell ⟨w1.heap.size,3,none⟩ (.slice (some ⟨wn.heap.size,0,none⟩) 2 2)).alloc (.cells #[.int .i64 op9,.int .i64 n9,.string nm9,.slice ea el9 ec,.int .i64 23,.int .i64 0,.string ⟨#[]⟩,.slice ax al9 cx] 55)).heap[w1.heap.size]? = some (.cells #[.int .i64 20,.int .i64 0,.string ⟨#[]⟩,.slice (some ⟨wn.heap.size,0,none⟩) 2 2] 55 (0,0))):=(Below.heap_alloc _ _ _ (by simp only[World.size_setCell];exact hlt9)).trans (put4_blk ((hbn.block _ hblk).trans HKc.out) _ _ _ _)
       have HBn:Hid (Below (w.heap.size+1) (w.alloc (.cells #[.int .i64 0,.int .i64 0,.string ⟨#[]⟩,.slice none 0 0] 55)) (((((wn.setCell ⟨w1.heap.size,0,none⟩ (.int .i64 20)).setCell ⟨w1.heap.size,1,none⟩ (.int .i64 0)).setCell ⟨w1.heap.size,2,none⟩ (.string ⟨#[]⟩)).setCell ⟨w1.heap.size,3,none⟩ (.slice (some ⟨wn.heap.size,0,none⟩) 2 2)).alloc (.cells #[.int .i64 op9,.int .i64 n9,.string nm9,.slice ea el9 ec,.int .i64 23,.int .i64 0,.string ⟨#[]⟩,.slice ax al9 cx] 55))):=(((((HBc.out.trans (hbn.mono (by simpa using hzr))).setCell hz1 _).setCell hz1 _).setCell hz1 _).setCell hz1 _).alloc (by simp only[World.size_setCell];omega) _
       have HEn:Hid (ExOn (fun k=>w.heap.size+1≤k∧k≠w1.heap.size) (((((wn.setCell ⟨w1.heap.size,0,none⟩ (.int .i64 20)).setCell ⟨w1.heap.size,1,none⟩ (.int .i64 0)).setCell ⟨w1.heap.size,2,none⟩ (.string ⟨#[]⟩)).setCell ⟨w1.heap.size,3,none⟩ (.slice (some ⟨wn.heap.size,0,none⟩) 2 2)).alloc (.cells #[.int .i64 op9,.int .i64 n9,.string nm9,.slice ea el9 ec,.int .i64 23,.int .i64 0,.string ⟨#[]⟩,.slice ax al9 cx] 55)) (eE e (iE s ((bs.drop (32 * c)).take 32))) (some ⟨wn.heap.size,0,none⟩) 2):=by
        obtain⟨rfl,rfl,rfl,rfl⟩:=HOp.out
        obtain rfl:=Hal9.out
        have h:=exOn_pair (w:=((((wn.setCell ⟨w1.heap.size,0,none⟩ (.int .i64 20)).setCell ⟨w1.heap.size,1,none⟩ (.int .i64 0)).setCell ⟨w1.heap.size,2,none⟩ (.string ⟨#[]⟩)).setCell ⟨w1.heap.size,3,none⟩ (.slice (some ⟨wn.heap.size,0,none⟩) 2 2))) ((HEi.out.keep (agree_below hbn)).keep (agree_put4 (fun h=>h.2 rfl) _ _ _ _)) (HXn.out.out.keep (agree_put4 (fun h=>h.2 rfl) _ _ _ _)) (by simp only[World.size_setCell];exact⟨by omega,by omega⟩)
        simp only[World.size_setCell] at h
        exact h
       have HEc1:Hid (chE s bs (c+1)=eE e (iE s ((bs.drop (32 * c)).take 32))):=by show _=_;rw[chE_succ s bs c (by omega),HEc.out]
       clear k0 k1 k2 k3 kf hxn
       go_wp2_with fail
       go_roundw
       case rel=>exact⟨c+1,_,_,_,eE e (iE s ((bs.drop (32 * c)).take 32)),some ⟨wn.heap.size,0,none⟩,2,rfl,by first | exact HR9.out | (have h:=HR9.out;show 0=_;omega),by omega,(show 16 * (c+1 - 1) < n by have:=Hr.out;omega),by first | exact HDp.out (by omega) | (have h:=HEm.out (by omega) (some ⟨b9,off9,none⟩) 0;rw[show r - cc=0 from by omega] at h;exact h),HEc1.out,HEn.out,HKn.out,HBn.out⟩
       case measure=>simp[lenV];omega
end Go.Proofs.YtcplmcjbkpmhdaaGreatDoor
namespace Go.Proofs.YtcplmcjbkpmhdaaGreatDoor
open Go.RowKit
attribute [local go_sem ↓] Go.wp_at_zero Go.wp_at_succ
def posTo (l:List WeightD) (k:Nat):List Nat:=(List.range k).filter fun (n:Nat)=>posW l (n:Int)
theorem posTo_succ (l:List WeightD) (k:Nat):posTo l (k+1)=if posW l k=true then posTo l k++[k] else posTo l k:=by
 unfold posTo
 rw[List.range_succ,List.filter_append]
 cases h:posW l k<;>simp[h]
theorem posTo_len (l:List WeightD) (k:Nat):(posTo l k).length≤k:=by
 unfold posTo
 have:=List.length_filter_le (fun (n:Nat)=>posW l (n:Int)) (List.range k)
 simpa using this
theorem posTo_mem {l:List WeightD} {k n:Nat} (h:n∈posTo l k):n < k:=by
 unfold posTo at h
 have:=(List.mem_filter.1 h).1
 simpa using this
theorem posTo_ends (l:List WeightD) (k:Nat):rngTo (posTo l k) (posTo l k).length=boundsN (fun n=>posW l n) k:=by
 unfold rngTo
 rw[List.take_length,posTo,flat_bounds]
set_option maxRecDepth 100000 in
set_option maxHeartbeats 8000000 in
theorem softSupport_any (p:ProbD) (x:ProbA) (d:DistD) (aw:Option Addr) (cw:Nat) (w:World) (hE:ProbIn w p x) (hV:VarsOk p.vars) (hW:WeightsIn w d.weights aw cw) (hR:RandV p.vars d.var) :
  Calls Tryz.prog 97 #[probVal p x,.agg #[.int .i64 d.var,.slice aw d.weights.length cw]] w fun e w'=>ExRet w (suppE p.vars d) e w':=by
 obtain⟨h0,v,hv,hm⟩:=hR
 obtain⟨hlt,hve⟩:=List.getElem?_eq_some_iff.1 hv
 obtain⟨b,off,ha⟩:=hE.vars.addr.resolve_left (by omega)
 obtain⟨c0,c1,c2,c3,c4⟩:=hE.vars.get ha hlt
 rw[hve] at c0 c1 c2 c3 c4
 have hbl:=World.block_lt_of_cell? _ _ c0
 simp only at hbl
 have hok:=hV.ok _ hlt
 rw[hve] at hok
 obtain⟨n1,n2,n3,n4,n5,n6⟩:=nums_of_ok hok
 have hlen:=hE.vars.2.1
 have hlen1:=hE.vars.1
 have hlenw:=hW.2.1
 have HS:Hid (suppE p.vars d=unE v.name (boundsN (fun n=>posW d.weights n) (2 ^ v.width.toNat))):=by show _=_;unfold suppE;rw[hv];rfl
 obtain⟨N,hN⟩:∃ N:Nat,2 ^ v.width.toNat=N:=⟨_,rfl⟩
 have hNI:(2:Int) ^ v.width.toNat=(N:Int):=by rw[← hN];simp
 have hN8:N≤256:=by have:=(pow8 n2).2;omega
 have hNw:IntKind.i64.wrap (2 ^ v.width.toNat)=(N:Int):=by rw[hNI,IntKind.wrap_i64];omega
 have hN0:1≤N:=by have:=(pow8 n2).1;omega
 rw[hN] at HS
 have HSc:=Lib.hid HS.out
 have HW:=Lib.hid hW
 have hnm:=c4
 obtain⟨j,hj⟩:∃ j:Nat,d.var=(j:Int):=⟨d.var.toNat,by omega⟩
 have hjt:d.var.toNat=j:=by omega
 rw[hjt] at hlt c0 c1 c2 c3
 clear hE hV hW hv hve hok
 simp only[probVal_eq]
 generalize suppE p.vars d=R at HS HSc
 obtain⟨vs,hard,soft,ds,gs⟩:=p
 obtain⟨av,cv,ah,ch,ao,co,ad,cd,ag,cg⟩:=x
 obtain⟨var,ws⟩:=d
 obtain⟨name,width,mode,value⟩:=v
 simp only at *
 subst ha hj
 have kk:=keeps_of_below (show Below w.heap.size w (((w.alloc (.cells #[.slice (some ⟨b,off,none⟩) vs.length cv,.slice ah hard.length ch,.slice ao soft.length co,.slice ad ds.length cd,.slice ag gs.length cg] 27)).alloc (.cells #[.int .i64 (j:Int),.slice aw ws.length cw] 76)).alloc (.cells #[.int .i64 0,.int .i64 0,.string ⟨#[]⟩,.slice none 0 0] 55)) from bel)
 replace c0:=kk _ _ c0
 replace c1:=kk _ _ c1
 replace c2:=kk _ _ c2
 replace c3:=kk _ _ c3
 clear kk
 go_enter Tryz.func97, Tryz.ntmps97
 go_wp2_with fail
 clear c0 c1 c2 c3
 generalize hW4:(((w.alloc (.cells #[.slice (some ⟨b,off,none⟩) vs.length cv,.slice ah hard.length ch,.slice ao soft.length co,.slice ad ds.length cd,.slice ag gs.length cg] 27)).alloc (.cells #[.int .i64 (j:Int),.slice aw ws.length cw] 76)).alloc (.cells #[.int .i64 0,.int .i64 0,.string ⟨#[]⟩,.slice none 0 0] 55)).alloc (.cells #[.string name,.int .i64 width,.int .i64 mode,.int .i64 value] 70)=W4
 have hz4:W4.heap.size=w.heap.size+4:=by rw[← hW4];simp
 have HB4:Hid (Below w.heap.size w W4):=by show Below _ _ _;rw[← hW4];exact bel
 have HK1:Hid (W4.heap[w.heap.size+1]? = some (.cells #[.int .i64 (j:Int),.slice aw ws.length cw] 76 (0,0))):=by
  show _=_;rw[← hW4]
  refine(Below.heap_alloc _ _ _ (by simp)).trans ((Below.heap_alloc _ _ _ (by simp)).trans ?_)
  have h:=heap_alloc_new' (w.alloc (.cells #[.slice (some ⟨b,off,none⟩) vs.length cv,.slice ah hard.length ch,.slice ao soft.length co,.slice ad ds.length cd,.slice ag gs.length cg] 27)) (.cells #[.int .i64 (j:Int),.slice aw ws.length cw] 76)
  simp only[World.size_alloc] at h
  exact h
 have HK2:Hid (W4.heap[w.heap.size+1+1]? = some (.cells #[.int .i64 0,.int .i64 0,.string ⟨#[]⟩,.slice none 0 0] 55 (0,0))):=by
  show _=_;rw[← hW4]
  refine(Below.heap_alloc _ _ _ (by simp)).trans ?_
  have h:=heap_alloc_new' ((w.alloc (.cells #[.slice (some ⟨b,off,none⟩) vs.length cv,.slice ah hard.length ch,.slice ao soft.length co,.slice ad ds.length cd,.slice ag gs.length cg] 27)).alloc (.cells #[.int .i64 (j:Int),.slice aw ws.length cw] 76)) (.cells #[.int .i64 0,.int .i64 0,.string ⟨#[]⟩,.slice none 0 0] 55)
  simp only[World.size_alloc] at h
  exact h
 have HK3:Hid (W4.heap[w.heap.size+1+1+1]? = some (.cells #[.string name,.int .i64 width,.int .i64 mode,.int .i64 value] 70 (0,0))):=by
  show _=_;rw[← hW4]
  have h:=heap_alloc_new' (((w.alloc (.cells #[.slice (some ⟨b,off,none⟩) vs.length cv,.slice ah hard.length ch,.slice ao soft.length co,.slice ad ds.length cd,.slice ag gs.length cg] 27)).alloc (.cells #[.int .i64 (j:Int),.slice aw ws.length cw] 76)).alloc (.cells #[.int .i64 0,.int .i64 0,.string ⟨#[]⟩,.slice none 0 0] 55)) (.cells #[.string name,.int .i64 width,.int .i64 mode,.int .i64 value] 70)
  simp only[World.size_alloc] at h
  exact h
 clear hW4
 go_loopw [6,18,7,8] (fun v i _ _ wr=>∃ k:Nat,i=.int .i64 k∧k≤N∧wr.ownsRow (w.heap.size+4) 3 1 v (posTo ws k).length ((posTo ws k).map natV)∧Below (w.heap.size+4) W4 wr) (fun _ i _ _ _=>N - (intOf i).toNat)
 case atStart=>exact⟨0,rfl,Nat.zero_le _,World.ownsRow_nil _ _ _ _,Below.refl _ _⟩
 case round =>
  obtain⟨k,rfl,hk,hown,hB⟩:=hrel
  have hzr:=hB.size
  have HO:=Lib.hid hown
  have HB:=Lib.hid hB
  have hpl:=posTo_len ws k
  clear hB
  by_cases hlt:k < N
  ·have e1:∀ o,(wr.alloc o).cell? ⟨w.heap.size+1,1,none⟩=some (.slice aw ws.length cw):=fun o=>(World.cell?_alloc_lt _ _ _ (by simp;omega)).trans (by simp[World.cell?,(HB.out.block (w.heap.size+1) (by omega)).trans HK1.out])
   have HBw:Hid (Below w.heap.size w wr):=HB4.out.trans (HB.out.mono (by omega))
   have HI0:=indexFunc_supp wr.heap.size (inW k) ws aw cw w (wr.alloc (.cells #[.int .i64 (k:Int)] 3)) (HW.out.keep (keeps_of_below (HBw.out.alloc (by omega) _))) (fun v _ w' hb'=>suppClo_any v wr.heap.size k w' ((keeps_of_below hb') _ _ (by simp)))
   have HI:=Lib.hid HI0
   have hwn:IntKind.i64.wrap ((k:Int)+1)=((k+1:Nat):Int):=by rw[IntKind.wrap_i64];omega
   rcases posW_first ws (k:Int) with ⟨hi,hp⟩ | ⟨m,hm,hi,hp⟩
   ·rw[hi] at HI
    have HNx:Hid (posTo ws (k+1)=posTo ws k):=by show _=_;rw[posTo_succ,hp];rfl
    clear HI0 hi hp
    go_wp2_with (go_at_call 142;(with_reducible refine HI.out.mono ?_);rintro e w1 ⟨rfl,hb1⟩)
    go_roundw
    case rel=>exact⟨k+1,by go_num,by omega,by rw[HNx.out];exact ownsRow_below (HO.out.alloc _) hb1,HB.out.trans (((Below.refl wr.heap.size wr).alloc (Nat.le_refl _) _).trans (hb1.mono (by simp)) |>.mono hzr |> fun h=>by first | exact h | (rw[← hz4];exact h))⟩
    case measure=>simp[intOf];omega
   ·rw[hi] at HI
    obtain⟨wb,wo,hwa⟩:=HW.out.addr.resolve_left (by omega)
    subst hwa
    obtain⟨_,_,g2,_⟩:=HW.out.get rfl hm
    have hm0:(0:Int)≤(m:Int):=by omega
    have HX:=Lib.hid (fun W (hW:Below (wr.alloc (.cells #[.int .i64 (k:Int)] 3)).heap.size (wr.alloc (.cells #[.int .i64 (k:Int)] 3)) W)=>(show W.cell? ⟨w.heap.size+1,1,none⟩=_ from ((bcell hW).1 _ _ (by simp;omega)).trans (e1 _)))
    have HY:=Lib.hid (fun W (hW:Below (wr.alloc (.cells #[.int .i64 (k:Int)] 3)).heap.size (wr.alloc (.cells #[.int .i64 (k:Int)] 3)) W)=>(keeps_of_below ((HBw.out.alloc (by omega) (.cells #[.int .i64 (k:Int)] 3)).trans (hW.mono (by simp;omega)))) _ _ g2)
    have HZ:=Lib.hid (fun W (hW:Below (wr.alloc (.cells #[.int .i64 (k:Int)] 3)).heap.size (wr.alloc (.cells #[.int .i64 (k:Int)] 3)) W)=>(show W.cell? ⟨wr.heap.size,0,none⟩=some (.int .i64 (k:Int)) from ((bcell hW).1 _ _ (by simp)).trans (by simp)))
    generalize (ws[m]'hm).weight=wt at g2 HY hp
    clear HI0 hi g2
    by_cases hwt:0 < wt
    ·have HNx:Hid (posTo ws (k+1)=posTo ws k++[k]):=by show _=_;rw[posTo_succ,hp,decide_eq_true hwt];rfl
     have hd:decide (0 < wt)=true:=by simpa using hwt
     clear hp
     go_wp2_with (first | (go_at_call 142;(with_reducible refine HI.out.mono ?_);rintro e w1 ⟨rfl,hb1⟩;have q1:=HX.out _ hb1;have q2:=HY.out _ hb1;have q3:=HZ.out _ hb1;have HO1:=Lib.hid (ownsRow_below (HO.out.alloc _) hb1);have HB1:=Lib.hid hb1) | (at_builtin;go_must (refine own_app elemI _ rfl (.tmp 36) (.tmp 38) rfl (w.heap.size+4) _ (posTo ws k).length _ rfl HO1.out [.int .i64 (k:Int)] rfl (by simp[Value.oneCell']) _ 1 rfl (by simp) (by omega) (by have:=HB1.out.size;simp at this;omega) ?_)))
     intro v' w3 hown3 hg3
     have HO3:=Lib.hid hown3
     have HB3:=Lib.hid (Below.grown (B:=w.heap.size+4) ((((HB.out.alloc (by omega) (.cells #[.int .i64 (k:Int)] 3)).trans (HB1.out.mono (by simp;omega)))).alloc (by have:=HB1.out.size;simp at this;omega) _) hg3 (by have:=HB1.out.size;simp at this;simp;omega) (fun q hq=>(HO1.out.lt q hq).1))
     clear hown3 hg3
     go_wp2_with fail
     go_roundw
     case rel=>exact⟨k+1,by go_num,by omega,by rw[HNx.out,List.length_append,List.map_append];exact HO3.out,HB3.out⟩
     case measure=>simp[intOf];omega
    ·have HNx:Hid (posTo ws (k+1)=posTo ws k):=by show _=_;rw[posTo_succ,hp,decide_eq_false hwt];rfl
     have hd:decide (0 < wt)=false:=by simpa using hwt
     clear hp
     go_wp2_with (go_at_call 142;(with_reducible refine HI.out.mono ?_);rintro e w1 ⟨rfl,hb1⟩;have q1:=HX.out _ hb1;have q2:=HY.out _ hb1;have q3:=HZ.out _ hb1)
     go_roundw
     case rel=>exact⟨k+1,by go_num,by omega,by rw[HNx.out];exact ownsRow_below (HO.out.alloc _) hb1,(HB.out.alloc (by omega) (.cells #[.int .i64 (k:Int)] 3)).trans (hb1.mono (by simp;omega))⟩
     case measure=>simp[intOf];omega
  ·obtain rfl:k=N:=by omega
   have hcst:(posTo ws k).map natV=((posTo ws k).map fun (n:Nat)=>(n:Int)).map (Value.int .i64):=by rw[List.map_map];rfl
   have hown':=hown
   rw[hcst] at hown'
   obtain⟨va,vc,hv,hI⟩:=ints_of_own (l:=(posTo ws k).map fun (n:Nat)=>(n:Int)) (by rw[List.length_map];exact hown') (by rw[List.length_map];omega)
   rw[List.length_map] at hv
   subst hv
   have HEnd:=Lib.hid (posTo_ends ws k)
   have HRg:=Lib.hid (fun W (hW:Below wr.heap.size wr W)=>ranges_any (posTo ws k) va vc W (hI.keep (keeps_of_below hW)) (fun n hn=>by have:=posTo_mem hn;omega))
   have hF:=rngTo_len (posTo ws k) _ (Nat.le_refl _)
   have HKa:=Lib.hid ((HB.out.block _ (by omega)).trans HK2.out)
   have HKb:=Lib.hid ((HB.out.block _ (by omega)).trans HK3.out)
   have HBw:Hid (Below w.heap.size w wr):=HB4.out.trans (HB.out.mono (by omega))
   generalize rngTo (posTo ws k) (posTo ws k).length=F at HEnd HRg hF
   have HRg:=Lib.hid (fun W (hW:Below wr.heap.size wr W)=>(HRg.out W hW).mono (R':=fun e w'=>∃ a c,e=.returned (.slice a (F.length / 2) c)∧RngIn w' F (F.length / 2) a c∧Below wr.heap.size wr w') fun e w' ⟨v,h1,h2,h3⟩=>by
    obtain⟨a,c,rfl,h4⟩:=rngIn_of_own h2 (by omega)
    exact⟨a,c,h1,h4,hW.trans (h3.mono hW.size)⟩)
   have HUn:=Lib.hid (fun W n a c (hW:Below wr.heap.size wr W) (hR:RngIn W F n a c)=>(union_any name F n a c W hnm hR (by have:=hR.1;omega)).mono (R':=fun e w'=>∃ ax cx,e=.returned (.agg #[.int .i64 (unE name F).op,.int .i64 (unE name F).n,.string (unE name F).name,.slice ax (unE name F).args.length cx])∧Hid (ExOn (w.heap.size+4≤·) w' (unE name F) ax cx)∧Hid (Below wr.heap.size wr w')) fun e w' ⟨ax,cx,h1,h2,h3⟩=>⟨ax,cx,h1,h2.mono (fun k h=>by have:=hW.size;have h':W.heap.size≤k:=h;show _≤k;omega),hW.trans (h3.mono hW.size)⟩)
   have n0:wr.cell? ⟨w.heap.size+1+1+1,0,none⟩=some (.string name):=by simp[World.cell?,HKb.out]
   have HC:=Lib.hid (fun W (hW:Below wr.heap.size wr W)=>(show W.cell? ⟨w.heap.size+1+1+1,0,none⟩=some (.string name) from ((bcell hW).1 _ _ (by omega)).trans n0))
   have HKc:=Lib.hid (fun W (hW:Below wr.heap.size wr W)=>(hW.block _ (by omega)).trans HKa.out)
   rw[← HEnd.out] at HSc
   clear hown hown' hI hcst HW HK1 HK2 HK3 HS
   generalize unE name F=e at HUn HSc
   obtain rfl:=HSc.out
   generalize hop:R.op=op9 at HUn
   generalize hnn:R.n=n9 at HUn
   generalize hnm9:R.name=nm9 at HUn
   generalize hal:R.args.length=al9 at HUn
   have HOp:=Lib.hid (⟨hop,hnn,hnm9,hal⟩:_∧_∧_∧_)
   clear hop hnn hnm9 hal
   go_wp2_with fail
   go_region_with (first | (go_at_call 145;(with_reducible refine(HRg.out _ (by first | assumption | exact bel)).mono ?_);rintro e9 w1 ⟨a9,c9,rfl,hrng,hb1⟩;have n1:=HC.out w1 (by first | assumption | exact bel)) | (go_at_call 144;(with_reducible refine(HUn.out _ _ _ _ (by first | assumption | exact bel) (by first | assumption | exact RngIn.keep (keeps_of_below bel) (by assumption))).mono ?_);rintro e9 w2 ⟨ax,cx,rfl,hx2,hb2⟩;have HK2:=Lib.hid (HKc.out w2 hb2.out);have q0:w2.cell? ⟨w.heap.size+1+1,0,none⟩=some (.int .i64 0):=(by simp[World.cell?,HK2.out]);have q1:w2.cell? ⟨w.heap.size+1+1,1,none⟩=some (.int .i64 0):=(by simp[World.cell?,HK2.out]);have q2:w2.cell? ⟨w.heap.size+1+1,2,none⟩=some (.string ⟨#[]⟩):=(by simp[World.cell?,HK2.out]);have q3:w2.cell? ⟨w.heap.size+1+1,3,none⟩=some (.slice none 0 0):=(by simp[World.cell?,HK2.out]);have qf:∀ j,w2.frozen? ⟨w.heap.size+1+1,j,none⟩=false:=(fun j=>by simp[World.frozen?,HK2.out])))
   all_goals
    have hk4:=put4_blk HK2.out (.int .i64 op9) (.int .i64 n9) (.string nm9) (.slice ax al9 cx)
    clear q0 q1 q2 q3
    go_wp2_with fail
    refine bodyPost_ret (v:=.agg #[.int .i64 op9,.int .i64 n9,.string nm9,.slice ax al9 cx]) (by simp[results, Tryz.results97,World.cell?,hk4,go_sem]) rfl ?_
    obtain⟨rfl,rfl,rfl,rfl⟩:=HOp.out
    exact⟨ax,cx,rfl,(hx2.out.keep (agree_put4 (fun h=>by omega) _ _ _ _)).mono (fun k h=>by show w.heap.size≤k;omega),((((HBw.out.trans (hb2.out.mono (by omega))).setCell (show w.heap.size≤w.heap.size+1+1 by omega) _).setCell (show w.heap.size≤w.heap.size+1+1 by omega) _).setCell (show w.heap.size≤w.heap.size+1+1 by omega) _).setCell (show w.heap.size≤w.heap.size+1+1 by omega) _⟩
end Go.Proofs.YtcplmcjbkpmhdaaGreatDoor
