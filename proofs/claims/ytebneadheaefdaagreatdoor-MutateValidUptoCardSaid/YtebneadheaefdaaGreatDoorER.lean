/- ref08: Same, for designs. -/
import Derived.Test.YtebneadheaefdaaGreatDoorEJ
set_option linter.unusedSimpArgs false
set_option linter.unusedVariables false
set_option linter.unnecessarySimpa false
namespace Go.Proofs.YtebneadheaefdaaGreatDoor
open Go.RowKit
attribute [local go_sem ↓] Go.wp_at_zero Go.wp_at_succ
theorem exq_eq {op n:Int} {s:ByteArray} {args:List Ex} {op' n':Int} {s':ByteArray} {args':List Ex}:(Ex.mk op n s args=Ex.mk op' n' s' args')↔op=op'∧n=n'∧s=s'∧args=args':=by
 constructor
 ·intro h;injection h with h1 h2 h3 h4;exact⟨h1,h2,h3,h4⟩
 ·rintro ⟨rfl,rfl,rfl,rfl⟩;rfl
theorem tl_ne {s s':ByteArray} (h:¬ s=s'):(s.toList != s'.toList)=true:=by
 cases he:(s.toList == s'.toList)
 ·simp[bne,he]
 ·have h1:s.toList=s'.toList:=by simpa using he
  rw[ByteArray.toList_eq,ByteArray.toList_eq] at h1
  exact absurd (ByteArray.ext (Array.toList_inj.1 h1)) h
set_option maxRecDepth 100000 in
set_option maxHeartbeats 8000000 in
theorem same08_any (x:Ex):∀ (y:Ex) (ax:Option Addr) (cx:Nat) (ay:Option Addr) (cy:Nat) (w:World),ExIn w x ax cx→ExIn w y ay cy →
  Calls Tryz.prog 62 #[exVal x ax cx,exVal y ay cy] w fun e w'=>e=.returned (.bool (pB (x=y)))∧Below w.heap.size w w':=by
 induction x using Ex.ind with
 | h x ih =>
  intro y ax cx ay cy w hX hY
  obtain⟨op,n,s,args⟩:=x
  obtain⟨op',n',s',args'⟩:=y
  have HX:=Lib.hid hX.2
  have HY:=Lib.hid hY.2
  have HAX:=Lib.hid hX.2.addr
  have HAY:=Lib.hid hY.2.addr
  have hlx:=hX.2.2.1
  have hly:=hY.2.2.1
  simp only[Ex.args_mk] at HX HY HAX HAY hlx hly ih
  have HIH:=Lib.hid ih
  clear hX hY ih
  simp only[exVal,Ex.op_mk,Ex.n_mk,Ex.name_mk,Ex.args_mk]
  by_cases h1:op=op'∧n=n'∧s=s'∧args.length=args'.length
  ·obtain⟨rfl,rfl,rfl,hl⟩:=h1
   have Hl:=Lib.hid hl
   have hd1:(op != op)=false:=by simp
   have hd2:(n != n)=false:=by simp
   have hd3:(s.toList != s.toList)=false:=by simp
   have hd4:((args.length:Int) != (args'.length:Int))=false:=by simp;omega
   clear hl
   go_enter Tryz.func62, Tryz.ntmps62
   go_wp2_with fail
   generalize hW2:(w.alloc (.cells #[.int .i64 op,.int .i64 n,.string s,.slice ax args.length cx] 72)).alloc (.cells #[.int .i64 op,.int .i64 n,.string s,.slice ay args'.length cy] 72)=W2
   have hz2:W2.heap.size=w.heap.size+2:=by rw[← hW2];simp
   have HB2:Hid (Below w.heap.size w W2):=by show Below _ _ _;rw[← hW2];exact bel
   have HK1:Hid (W2.heap[w.heap.size]? = some (.cells #[.int .i64 op,.int .i64 n,.string s,.slice ax args.length cx] 72 (0,0))):=by
    show _=_;rw[← hW2]
    exact(Below.heap_alloc _ _ _ (by simp)).trans (heap_alloc_new' w _)
   have HK2:Hid (W2.heap[w.heap.size+1]? = some (.cells #[.int .i64 op,.int .i64 n,.string s,.slice ay args'.length cy] 72 (0,0))):=by
    show _=_;rw[← hW2]
    have h:=heap_alloc_new' (w.alloc (.cells #[.int .i64 op,.int .i64 n,.string s,.slice ax args.length cx] 72)) (.cells #[.int .i64 op,.int .i64 n,.string s,.slice ay args'.length cy] 72)
    simp only[World.size_alloc] at h
    exact h
   clear hW2
   go_loopw [5] (fun i wr=>∃ k:Nat,i=.int .i64 k∧k≤args.length∧Hid (∀ j (hj:j < args.length),j < k→args[j]'hj=args'[j]'(by have:=Hl.out;omega))∧Below (w.heap.size+2) W2 wr) (fun i _=>args.length - (intOf i).toNat)
   case atStart=>exact⟨0,rfl,Nat.zero_le _,fun _ _ h=>absurd h (by omega),Below.refl _ _⟩
   case round =>
    obtain⟨k,rfl,hk,HAl,hB⟩:=hrel
    have hzr:=hB.size
    have HBw:Hid (Below w.heap.size w wr):=HB2.out.trans (hB.mono (by omega))
    have hk1:=(hB.block w.heap.size (by omega)).trans HK1.out
    have hk2:=(hB.block (w.heap.size+1) (by omega)).trans HK2.out
    have x3:wr.cell? ⟨w.heap.size,3,none⟩=some (.slice ax args.length cx):=by simp[World.cell?,hk1]
    have y3:wr.cell? ⟨w.heap.size+1,3,none⟩=some (.slice ay args'.length cy):=by simp[World.cell?,hk2]
    have HB:=Lib.hid hB
    clear hk1 hk2 hB
    by_cases hlt:k < args.length
    ·have hltb:k < args'.length:=by have:=Hl.out;omega
     obtain⟨ba,oa,ha⟩:=HAX.out.resolve_left (by omega)
     obtain⟨bb,ob,hb⟩:=HAY.out.resolve_left (by omega)
     subst ha
     subst hb
     obtain⟨a1,k1,g0,g1,g2,g3,hP⟩:=HX.out.get rfl hlt
     obtain⟨a2,k2,q0,q1,q2,q3,hQ⟩:=HY.out.get rfl hltb
     have kk:=keeps_of_below HBw.out
     have c0:∀ g:Grow wr.heap.size wr,g.w'.cell? _=_:=Grow.old (kk _ _ g0) (Nat.le_refl _)
     have c1:∀ g:Grow wr.heap.size wr,g.w'.cell? _=_:=Grow.old (kk _ _ g1) (Nat.le_refl _)
     have c2:∀ g:Grow wr.heap.size wr,g.w'.cell? _=_:=Grow.old (kk _ _ g2) (Nat.le_refl _)
     have c3:∀ g:Grow wr.heap.size wr,g.w'.cell? _=_:=Grow.old (kk _ _ g3) (Nat.le_refl _)
     have d0:∀ g:Grow wr.heap.size wr,g.w'.cell? _=_:=Grow.old (kk _ _ q0) (Nat.le_refl _)
     have d1:∀ g:Grow wr.heap.size wr,g.w'.cell? _=_:=Grow.old (kk _ _ q1) (Nat.le_refl _)
     have d2:∀ g:Grow wr.heap.size wr,g.w'.cell? _=_:=Grow.old (kk _ _ q2) (Nat.le_refl _)
     have d3:∀ g:Grow wr.heap.size wr,g.w'.cell? _=_:=Grow.old (kk _ _ q3) (Nat.le_refl _)
     have X3:∀ g:Grow wr.heap.size wr,g.w'.cell? _=_:=Grow.old x3 (Nat.le_refl _)
     have Y3:∀ g:Grow wr.heap.size wr,g.w'.cell? _=_:=Grow.old y3 (Nat.le_refl _)
     have HC:=Lib.hid (fun W (hW:Below wr.heap.size wr W)=>(HIH.out _ (List.getElem_mem hlt) _ a1 k1 a2 k2 W ((hP.keep kk).keep (keeps_of_below hW)) ((hQ.keep kk).keep (keeps_of_below hW))).mono fun e w' h=>(⟨h.1,hW.trans (h.2.mono hW.size)⟩:_∧Below wr.heap.size wr w'))
     simp only[exVal] at HC
     have HNx:Hid (args[k]'hlt=args'[k]'hltb→∀ j (hj:j < args.length),j < k+1→args[j]'hj=args'[j]'(by have:=Hl.out;omega)):=fun he j hj hjk=>by
      by_cases e:j=k
      ·subst e;exact he
      ·exact HAl.out j hj (by omega)
     have HNo:Hid (¬ (args[k]'hlt=args'[k]'hltb)→pB (Ex.mk op n s args=Ex.mk op n s args')=false):=fun he=>pB_false (fun h=>he (by have h2:=(exq_eq.1 h).2.2.2;subst h2;rfl))
     generalize args[k]'hlt=u at c0 c1 c2 c3 HC HNx HNo
     generalize args'[k]'hltb=v at d0 d1 d2 d3 HC HNx HNo
     clear g0 g1 g2 g3 q0 q1 q2 q3 kk hP hQ
     by_cases he:u=v
     ·have HNx':=Lib.hid (HNx.out he)
      rw[pB_true he] at HC
      clear he HNx HNo
      go_wp2_with fail
      (refine wp_region_grow (B:=wr.heap.size) (w0:=wr) (by kernel_rfl) (by kernel_rfl) bel ?_;(repeat (go_big_quiet_step ((go_at_call 62;with_reducible exact grow_call (HC.out _ (Grow.h _))))));refine wpQuiet_nil ?_;intro wg hCg;have hbg:=grow_out hCg;clear hCg)
      go_wp2_with fail
      go_roundw
      case rel=>exact⟨k+1,by go_num,by omega,HNx'.out,HB.out.trans ((by assumption:Below wr.heap.size wr _).mono (by omega))⟩
      case measure=>simp[intOf];omega
     ·have HNo':=Lib.hid (HNo.out he)
      rw[pB_false he] at HC
      clear he HNx HNo
      go_wp2_with fail
      (refine wp_region_grow (B:=wr.heap.size) (w0:=wr) (by kernel_rfl) (by kernel_rfl) bel ?_;(repeat (go_big_quiet_step ((go_at_call 62;with_reducible exact grow_call (HC.out _ (Grow.h _))))));refine wpQuiet_nil ?_;intro wg hCg;have hbg:=grow_out hCg;clear hCg)
      go_wp2_with fail
      go_ret
      exact⟨by rw[HNo'.out];rfl,HBw.out.trans ((by assumption:Below wr.heap.size wr _).mono HBw.out.size)⟩
    ·obtain rfl:k=args.length:=by omega
     have HYes:Hid (pB (Ex.mk op n s args=Ex.mk op n s args')=true):=pB_true (exq_eq.2 ⟨rfl,rfl,rfl,List.ext_getElem Hl.out (fun j hj _=>HAl.out j hj hj)⟩)
     go_wp2_with fail
     go_ret
     exact⟨by rw[HYes.out];rfl,HBw.out⟩
  ·have HNo:Hid (pB (Ex.mk op n s args=Ex.mk op' n' s' args')=false):=pB_false (fun h=>h1 (by have h2:=exq_eq.1 h;exact⟨h2.1,h2.2.1,h2.2.2.1,by rw[h2.2.2.2]⟩))
   have hcase:(op != op')=true∨(op != op')=false∧((n != n')=true∨(n != n')=false∧((¬ s.toList=s'.toList)∨s=s'∧((args.length:Int) != (args'.length:Int))=true)):=by
    by_cases e1:op=op'
    ·by_cases e2:n=n'
     ·by_cases e3:s=s'
      ·refine Or.inr ⟨by simp[e1],Or.inr ⟨by simp[e2],Or.inr ⟨e3,?_⟩⟩⟩
       have:args.length≠args'.length:=fun e4=>h1 ⟨e1,e2,e3,e4⟩
       simp;omega
      ·refine Or.inr ⟨by simp[e1],Or.inr ⟨by simp[e2],Or.inl ?_⟩⟩
       exact fun h=>by have:=tl_ne e3;rw[h] at this;simp at this
     ·exact Or.inr ⟨by simp[e1],Or.inl (by simpa using e2)⟩
    ·exact Or.inl (by simpa using e1)
   clear h1
   rcases hcase with hd | ⟨hd,hd2 | ⟨hd2,hd3 | ⟨rfl,hd4⟩⟩⟩
   all_goals
    go_enter Tryz.func62, Tryz.ntmps62
    go_wp2_with fail
    go_ret
    exact⟨by rw[HNo.out];rfl,bel⟩
end Go.Proofs.YtebneadheaefdaaGreatDoor
