/- ref22: support. -/
import Derived.Test.YtcplmcjbkpmhdaaGreatDoorSE
import Derived.Test.YtcplmcjbkpmhdaaGreatDoorSD
import Derived.Deep.RegionHeld3
set_option linter.unusedSimpArgs false
set_option linter.unusedVariables false
set_option linter.unnecessarySimpa false
namespace Go.Proofs.YtcplmcjbkpmhdaaGreatDoor
open Go.RowKit
attribute [local go_sem ↓] Go.wp_at_zero Go.wp_at_succ
def numCells (bs:List Nat):List Value:=bs.flatMap fun (n:Nat)=>[Value.int .i64 1,.int .i64 (n:Int),.string ⟨#[]⟩,.slice none 0 0]
theorem numCells_append (a b:List Nat):numCells (a++b)=numCells a++numCells b:=by unfold numCells;rw[List.flatMap_append]
theorem numCells_nil:numCells []=[]:=rfl
theorem numCells_one (n:Nat):numCells [n]=[.int .i64 1,.int .i64 (n:Int),.string ⟨#[]⟩,.slice none 0 0]:=by simp[numCells]
theorem numCells_len (bs:List Nat):(numCells bs).length=bs.length * 4:=by
 induction bs with
 | nil=>rfl
 | cons n bs ih=>rw[show numCells (n::bs)=numCells [n]++numCells bs from by rw[← numCells_append];rfl,List.length_append,ih,numCells_one];simp;omega
theorem numCells_part {L:List Nat} {q m:Nat} (h:q+m≤L.length) {j:Nat} (hj:j < m * 4):(numCells ((L.drop q).take m))[j]? = (numCells L)[q * 4+j]?:=by
 have h1:L=L.take q++((L.drop q).take m++(L.drop q).drop m):=by rw[List.take_append_drop,List.take_append_drop]
 have h2:numCells L=numCells (L.take q)++(numCells ((L.drop q).take m)++numCells ((L.drop q).drop m)):=by
  conv=>lhs;rw[h1]
  rw[numCells_append,numCells_append]
 have l1:(numCells (L.take q)).length=q * 4:=by rw[numCells_len,List.length_take];congr 1;omega
 have l2:(numCells ((L.drop q).take m)).length=m * 4:=by rw[numCells_len,List.length_take,List.length_drop];congr 1;omega
 rw[h2,List.getElem?_append_right (by omega),l1,show q * 4+j - q * 4=j from by omega,List.getElem?_append_left (by omega)]
theorem numRow (w:World) (bs:List Nat):ExRow w (bs.map fun (n:Nat)=>cE (n:Int)) (numCells bs):=by
 induction bs with
 | nil=>exact ExRow.nil w
 | cons n bs ih =>
  have h:=(exRow_leaf w 1 (n:Int) ⟨#[]⟩ (by decide)).append ih
  exact h
theorem cells_of_blk {w:World} {b:Nat} {a0 a1 a2 a3:Value} {t:TypeId} (h:w.heap[b]? = some (.cells #[a0,a1,a2,a3] t (0,0))):w.cell? ⟨b,0,none⟩=some a0∧w.cell? ⟨b,1,none⟩=some a1∧w.cell? ⟨b,2,none⟩=some a2∧w.cell? ⟨b,3,none⟩=some a3∧∀ j,w.frozen? ⟨b,j,none⟩=false:=by
 refine⟨?_,?_,?_,?_,fun j=>?_⟩<;>simp[World.cell?,World.frozen?,h]
theorem args_on {S:Nat→Prop} {w:World} {B:Nat} {name:ByteArray} {bs:List Nat} {a:Option Addr} {n c:Nat} (hs:name.size≤1073741824) (hb:bs.length≤1000) (h:w.ownsRow B 55 4 (.slice a n c) (1+bs.length) ([.int .i64 2,.int .i64 0,.string name,.slice none 0 0]++numCells bs)) (hS:∀ k,B≤k→S k):ExOn S w (iE name bs) a c:=by
 intro w' h'
 refine⟨show (⟨#[]⟩:ByteArray).size≤1073741824 by decide,?_⟩
 have hl:(vE name::bs.map fun (n:Nat)=>cE (n:Int)).length=1+bs.length:=by simp;omega
 rw[← hl] at h
 exact exsOn_own (S:=S) (l:=vE name::bs.map fun (n:Nat)=>cE (n:Int)) h (fun w2 _=>(exRow_leaf w2 2 0 name hs).append (numRow w2 bs)) (fun g hg=>hS g (h.lt g hg).1) (by rw[hl];omega) w' h'
def posP (ws:List WeightD) (n:Nat):Bool:=posW ws (n:Int)
theorem stepB_none {P:Nat→Bool} {N n:Nat} (h:P n=false):stepB P N n=[]:=by unfold stepB;rw[if_neg (by rw[h];simp)]
theorem stepB_some {P:Nat→Bool} {N n:Nat} (h:P n=true):stepB P N n=(if n=0∨P (n - 1)=false then [n] else [])++(if n+1=N∨P (n+1)=false then [n] else []):=by unfold stepB;rw[if_pos h]
set_option maxRecDepth 100000 in
set_option maxHeartbeats 32000000 in
theorem r22support_any (p:ProbD) (x:ProbA) (d:DistD) (aw:Option Addr) (cw:Nat) (w:World) (hE:ProbIn w p x) (hV:VarsOk p.vars) (hW:WeightsIn w d.weights aw cw) (hR:RandV p.vars d.var) :
  Calls Tryz.prog 216 #[probVal p x,.agg #[.int .i64 d.var,.slice aw d.weights.length cw]] w fun e w'=>ExRet w (suppE p.vars d) e w':=by
 obtain⟨h0,v,hv,hm⟩:=hR
 obtain⟨hlt,hve⟩:=List.getElem?_eq_some_iff.1 hv
 obtain⟨b,off,ha⟩:=hE.vars.addr.resolve_left (by omega)
 obtain⟨c0,c1,c2,c3,c4⟩:=hE.vars.get ha hlt
 rw[hve] at c0 c1 c2 c3 c4
 have hbl:=World.block_lt_of_cell? _ _ c0
 simp only at hbl
 have hok:=hV.ok _ hlt
 rw[hve] at hok
 obtain⟨n1,n2,n3,n4,n5,n6⟩:=nums_of_ok hok
 have hlen:=hE.vars.2.1
 have hlen1:=hE.vars.1
 have hlenw:=hW.2.1
 have HS:Hid (suppE p.vars d=unE v.name (boundsN (fun n=>posW d.weights n) (2 ^ v.width.toNat))):=by show _=_;unfold suppE;rw[hv];rfl
 obtain⟨N,hN⟩:∃ N:Nat,2 ^ v.width.toNat=N:=⟨_,rfl⟩
 have hNI:(2:Int) ^ v.width.toNat=(N:Int):=by rw[← hN];simp
 have hN8:N≤256:=by have:=(pow8 n2).2;omega
 have hNw:IntKind.i64.wrap (2 ^ v.width.toNat)=(N:Int):=by rw[hNI,IntKind.wrap_i64];omega
 have hN0:1≤N:=by have:=(pow8 n2).1;omega
 rw[hN] at HS
 have HSc:=Lib.hid HS.out
 have HW:=Lib.hid hW
 have hnm:=c4
 obtain⟨j,hj⟩:∃ j:Nat,d.var=(j:Int):=⟨d.var.toNat,by omega⟩
 have hjt:d.var.toNat=j:=by omega
 rw[hjt] at hlt c0 c1 c2 c3
 clear hE hV hW hv hve hok
 simp only[probVal_eq]
 generalize suppE p.vars d=R at HS HSc
 obtain⟨vs,hard,soft,ds,gs⟩:=p
 obtain⟨av,cv,ah,ch,ao,co,ad,cd,ag,cg⟩:=x
 obtain⟨var,ws⟩:=d
 obtain⟨name,width,mode,value⟩:=v
 simp only at *
 subst ha hj
 have kk:=keeps_of_below (show Below w.heap.size w (((w.alloc (.cells #[.slice (some ⟨b,off,none⟩) vs.length cv,.slice ah hard.length ch,.slice ao soft.length co,.slice ad ds.length cd,.slice ag gs.length cg] 27)).alloc (.cells #[.int .i64 (j:Int),.slice aw ws.length cw] 76)).alloc (.cells #[.int .i64 0,.int .i64 0,.string ⟨#[]⟩,.slice none 0 0] 55)) from bel)
 replace c0:=kk _ _ c0
 replace c1:=kk _ _ c1
 replace c2:=kk _ _ c2
 replace c3:=kk _ _ c3
 clear kk
 go_enter Tryz.func216, Tryz.ntmps216
 go_wp2_with fail
 clear c0 c1 c2 c3
 generalize hW4:(((w.alloc (.cells #[.slice (some ⟨b,off,none⟩) vs.length cv,.slice ah hard.length ch,.slice ao soft.length co,.slice ad ds.length cd,.slice ag gs.length cg] 27)).alloc (.cells #[.int .i64 (j:Int),.slice aw ws.length cw] 76)).alloc (.cells #[.int .i64 0,.int .i64 0,.string ⟨#[]⟩,.slice none 0 0] 55)).alloc (.cells #[.string name,.int .i64 width,.int .i64 mode,.int .i64 value] 70)=W4
 have hz4:W4.heap.size=w.heap.size+4:=by rw[← hW4];simp
 have HB4:Hid (Below w.heap.size w W4):=by show Below _ _ _;rw[← hW4];exact bel
 have HK1:Hid (W4.heap[w.heap.size+1]? = some (.cells #[.int .i64 (j:Int),.slice aw ws.length cw] 76 (0,0))):=by
  show _=_;rw[← hW4]
  refine(Below.heap_alloc _ _ _ (by simp)).trans ((Below.heap_alloc _ _ _ (by simp)).trans ?_)
  have h:=heap_alloc_new' (w.alloc (.cells #[.slice (some ⟨b,off,none⟩) vs.length cv,.slice ah hard.length ch,.slice ao soft.length co,.slice ad ds.length cd,.slice ag gs.length cg] 27)) (.cells #[.int .i64 (j:Int),.slice aw ws.length cw] 76)
  simp only[World.size_alloc] at h
  exact h
 have HK2:Hid (W4.heap[w.heap.size+1+1]? = some (.cells #[.int .i64 0,.int .i64 0,.string ⟨#[]⟩,.slice none 0 0] 55 (0,0))):=by
  show _=_;rw[← hW4]
  refine(Below.heap_alloc _ _ _ (by simp)).trans ?_
  have h:=heap_alloc_new' ((w.alloc (.cells #[.slice (some ⟨b,off,none⟩) vs.length cv,.slice ah hard.length ch,.slice ao soft.length co,.slice ad ds.length cd,.slice ag gs.length cg] 27)).alloc (.cells #[.int .i64 (j:Int),.slice aw ws.length cw] 76)) (.cells #[.int .i64 0,.int .i64 0,.string ⟨#[]⟩,.slice none 0 0] 55)
  simp only[World.size_alloc] at h
  exact h
 have HK3:Hid (W4.heap[w.heap.size+1+1+1]? = some (.cells #[.string name,.int .i64 width,.int .i64 mode,.int .i64 value] 70 (0,0))):=by
  show _=_;rw[← hW4]
  have h:=heap_alloc_new' (((w.alloc (.cells #[.slice (some ⟨b,off,none⟩) vs.length cv,.slice ah hard.length ch,.slice ao soft.length co,.slice ad ds.length cd,.slice ag gs.length cg] 27)).alloc (.cells #[.int .i64 (j:Int),.slice aw ws.length cw] 76)).alloc (.cells #[.int .i64 0,.int .i64 0,.string ⟨#[]⟩,.slice none 0 0] 55)) (.cells #[.string name,.int .i64 width,.int .i64 mode,.int .i64 value] 70)
  simp only[World.size_alloc] at h
  exact h
 clear hW4
 have HLen:=Lib.hid (boundsTo_len (posP ws) N)
 have hH:=HW
 go_loopw [6,7] (fun v i wr=>∃ k:Nat,i=.int .i64 k∧k≤N∧wr.ownsRow (w.heap.size+4) 55 4 v (boundsTo (posP ws) N k).length (numCells (boundsTo (posP ws) N k))∧Below (w.heap.size+4) W4 wr) (fun _ i _=>N - (intOf i).toNat)
 case atStart=>exact⟨0,rfl,Nat.zero_le _,World.ownsRow_nil _ _ _ _,Below.refl _ _⟩
 case round =>
  obtain⟨k,rfl,hk,hown,hB⟩:=hrel
  have hzr:=hB.size
  have HO:=Lib.hid hown
  have HB:=Lib.hid hB
  have hpl:=HLen.out k
  have HKd:=Lib.hid ((HB.out.block _ (by omega)).trans HK1.out)
  have HKb:=Lib.hid ((HB.out.block _ (by omega)).trans HK3.out)
  have HBw:Hid (Below w.heap.size w wr):=HB4.out.trans (HB.out.mono (by omega))
  have d1:wr.cell? ⟨w.heap.size+1,1,none⟩=some (.slice aw ws.length cw):=by simp[World.cell?,HKd.out]
  have v0:wr.cell? ⟨w.heap.size+1+1+1,0,none⟩=some (.string name):=by simp[World.cell?,HKb.out]
  have v1:wr.cell? ⟨w.heap.size+1+1+1,1,none⟩=some (.int .i64 width):=by simp[World.cell?,HKb.out]
  have hwk1:IntKind.i64.wrap ((k:Int)+1)=(k:Int)+1:=by rw[IntKind.wrap_i64];omega
  have hwk2:IntKind.i64.wrap ((k:Int) - 1)=(k:Int) - 1:=by rw[IntKind.wrap_i64];omega
  clear hB hown
  by_cases hlt:k < N
  ·have HSu:=Lib.hid (boundsTo_succ (posP ws) N k)
   have HP:=Lib.hid (fun v=>Positive_any ws aw cw v wr (HW.out.keep (keeps_of_below HBw.out)))
   have HP0:=Lib.hid (HP.out (k:Int))
   cases hp0:posP ws k
   ·have h0:posW ws (k:Int)=false:=hp0
    rw[h0] at HP0
    have HNx:Hid (boundsTo (posP ws) N (k+1)=boundsTo (posP ws) N k):=by show _=_;rw[HSu.out,stepB_none hp0,List.append_nil]
    clear h0 hp0
    go_wp2_with (go_at_call 78;(with_reducible refine HP0.out.mono ?_);rintro e w1 ⟨rfl,rfl⟩)
    go_roundw
    case rel=>exact⟨k+1,by go_num,by omega,by rw[HNx.out];exact HO.out,HB.out⟩
    case measure=>(simp[intOf];try omega)
   ·have h0:posW ws (k:Int)=true:=hp0
    rw[h0] at HP0
    rw[stepB_some hp0] at HSu
    clear h0 hp0
    have hNum:=Lib.hid (fun W=>r22number_any (k:Int) W)
    rcases Nat.eq_zero_or_pos k with hk0 | hk0
    ·by_cases hkN:k+1=N
     ·skip
      have hka:((k:Int) == 0)=true:=by simp;omega
      rw[if_pos (Or.inl hk0)] at HSu
      clear hk0
      have hkc:((k:Int)+1 == (N:Int))=true:=by simp;omega
      rw[if_pos (Or.inl hkN)] at HSu
      go_wp2_with (first | (go_at_call 78;(with_reducible refine HP0.out.mono ?_);rintro e w1 ⟨rfl,rfl⟩) | (go_at_call 252;(with_reducible refine(hNum.out _).mono ?_);rintro e w2 ⟨rfl,hb2⟩;have HOn:=Lib.hid (ownsRow_below HO.out hb2);have HBn:=Lib.hid (HB.out.trans (hb2.mono (by have:=HB.out.size;omega)));have hz2:=HBn.out.size;have d1:w2.cell? ⟨w.heap.size+1,1,none⟩=some (.slice aw ws.length cw):=(by simp[World.cell?,(HBn.out.block (w.heap.size+1) (by omega)).trans HK1.out]);have v1:w2.cell? ⟨w.heap.size+1+1+1,1,none⟩=some (.int .i64 width):=(by simp[World.cell?,(HBn.out.block (w.heap.size+1+1+1) (by omega)).trans HK3.out]);clear hb2) | (at_builtin;go_must (refine own_app elemEx _ rfl (.tmp 40) (.tmp 43) rfl (w.heap.size+4) _ _ _ rfl HOn.out [.int .i64 1,.int .i64 (k:Int),.string ⟨#[]⟩,.slice none 0 0] rfl (by simp[Value.oneCell']) _ 1 rfl (by simp) (by omega) (by omega) ?_)))
      intro v1' w3 hown3 hg3
      have HO3:=Lib.hid hown3
      have HB3:=Lib.hid (Below.grown (B:=w.heap.size+4) (HBn.out.alloc (by omega) _) hg3 (by simp;omega) (fun q hq=>(HOn.out.lt q hq).1))
      clear hown3 hg3 d1 v1 HOn HBn hz2
      have hz3:=HB3.out.size
      have d1:w3.cell? ⟨w.heap.size+1,1,none⟩=some (.slice aw ws.length cw):=by simp[World.cell?,(HB3.out.block (w.heap.size+1) (by omega)).trans HK1.out]
      have v1:w3.cell? ⟨w.heap.size+1+1+1,1,none⟩=some (.int .i64 width):=by simp[World.cell?,(HB3.out.block (w.heap.size+1+1+1) (by omega)).trans HK3.out]
      have HB3w:Hid (Below w.heap.size w w3):=HB4.out.trans (HB3.out.mono (by omega))
      go_wp2_with (first | (go_at_call 252;(with_reducible refine(hNum.out _).mono ?_);rintro e w2 ⟨rfl,hb2⟩;have HOn:=Lib.hid (ownsRow_below HO3.out hb2);have HBn:=Lib.hid (HB3.out.trans (hb2.mono (by have:=HB3.out.size;omega)));have hz2:=HBn.out.size;have d1:w2.cell? ⟨w.heap.size+1,1,none⟩=some (.slice aw ws.length cw):=(by simp[World.cell?,(HBn.out.block (w.heap.size+1) (by omega)).trans HK1.out]);have v1:w2.cell? ⟨w.heap.size+1+1+1,1,none⟩=some (.int .i64 width):=(by simp[World.cell?,(HBn.out.block (w.heap.size+1+1+1) (by omega)).trans HK3.out]);clear hb2) | (at_builtin;go_must (refine own_app elemEx _ rfl (.tmp 59) (.tmp 62) rfl (w.heap.size+4) _ _ _ rfl HOn.out [.int .i64 1,.int .i64 (k:Int),.string ⟨#[]⟩,.slice none 0 0] rfl (by simp[Value.oneCell']) _ 1 rfl (by simp) (by omega) (by omega) ?_)))
      intro v2' w4 hown4 hg4
      have HO4:=Lib.hid hown4
      have HB5:=Lib.hid (Below.grown (B:=w.heap.size+4) (HBn.out.alloc (by omega) _) hg4 (by simp;omega) (fun q hq=>(HOn.out.lt q hq).1))
      clear hown4 hg4
      go_wp2_with fail
      go_roundw
      case rel=>exact⟨k+1,by go_num,by omega,by (try rw[← numCells_one] at HO4);(try rw[← numCells_one] at HO3);rw[HSu.out,numCells_append,numCells_append,List.length_append,List.length_append];have h9:=HO4.out;simp only[List.append_assoc,List.append_nil,List.nil_append,List.length_nil,List.length_cons,Nat.zero_add,Nat.add_zero,Nat.add_assoc,numCells_one,numCells_nil] at h9⊢;exact h9,HB5.out⟩
      case measure=>(simp[intOf];try omega)
     ·cases hpp:posP ws (k+1)
      ·skip
       have hka:((k:Int) == 0)=true:=by simp;omega
       rw[if_pos (Or.inl hk0)] at HSu
       clear hk0
       have hkc:((k:Int)+1 == (N:Int))=false:=by simp;omega
       have HPp:=Lib.hid (fun W (hW:Below w.heap.size w W)=>Positive_any ws aw cw ((k:Int)+1) W (HW.out.keep (keeps_of_below hW)))
       have hpp':posW ws ((k:Int)+1)=false:=hpp
       rw[hpp'] at HPp
       rw[if_pos (Or.inr hpp)] at HSu
       clear hpp hpp'
       go_wp2_with (first | (go_at_call 78;(with_reducible refine HP0.out.mono ?_);rintro e w1 ⟨rfl,rfl⟩) | (go_at_call 252;(with_reducible refine(hNum.out _).mono ?_);rintro e w2 ⟨rfl,hb2⟩;have HOn:=Lib.hid (ownsRow_below HO.out hb2);have HBn:=Lib.hid (HB.out.trans (hb2.mono (by have:=HB.out.size;omega)));have hz2:=HBn.out.size;have d1:w2.cell? ⟨w.heap.size+1,1,none⟩=some (.slice aw ws.length cw):=(by simp[World.cell?,(HBn.out.block (w.heap.size+1) (by omega)).trans HK1.out]);have v1:w2.cell? ⟨w.heap.size+1+1+1,1,none⟩=some (.int .i64 width):=(by simp[World.cell?,(HBn.out.block (w.heap.size+1+1+1) (by omega)).trans HK3.out]);clear hb2) | (at_builtin;go_must (refine own_app elemEx _ rfl (.tmp 40) (.tmp 43) rfl (w.heap.size+4) _ _ _ rfl HOn.out [.int .i64 1,.int .i64 (k:Int),.string ⟨#[]⟩,.slice none 0 0] rfl (by simp[Value.oneCell']) _ 1 rfl (by simp) (by omega) (by omega) ?_)))
       intro v1' w3 hown3 hg3
       have HO3:=Lib.hid hown3
       have HB3:=Lib.hid (Below.grown (B:=w.heap.size+4) (HBn.out.alloc (by omega) _) hg3 (by simp;omega) (fun q hq=>(HOn.out.lt q hq).1))
       clear hown3 hg3 d1 v1 HOn HBn hz2
       have hz3:=HB3.out.size
       have d1:w3.cell? ⟨w.heap.size+1,1,none⟩=some (.slice aw ws.length cw):=by simp[World.cell?,(HB3.out.block (w.heap.size+1) (by omega)).trans HK1.out]
       have v1:w3.cell? ⟨w.heap.size+1+1+1,1,none⟩=some (.int .i64 width):=by simp[World.cell?,(HB3.out.block (w.heap.size+1+1+1) (by omega)).trans HK3.out]
       have HB3w:Hid (Below w.heap.size w w3):=HB4.out.trans (HB3.out.mono (by omega))
       go_wp2_with (first | (go_at_call 78;(with_reducible refine(HPp.out _ HB3w.out).mono ?_);rintro e w1 ⟨rfl,rfl⟩) | (go_at_call 252;(with_reducible refine(hNum.out _).mono ?_);rintro e w2 ⟨rfl,hb2⟩;have HOn:=Lib.hid (ownsRow_below HO3.out hb2);have HBn:=Lib.hid (HB3.out.trans (hb2.mono (by have:=HB3.out.size;omega)));have hz2:=HBn.out.size;have d1:w2.cell? ⟨w.heap.size+1,1,none⟩=some (.slice aw ws.length cw):=(by simp[World.cell?,(HBn.out.block (w.heap.size+1) (by omega)).trans HK1.out]);have v1:w2.cell? ⟨w.heap.size+1+1+1,1,none⟩=some (.int .i64 width):=(by simp[World.cell?,(HBn.out.block (w.heap.size+1+1+1) (by omega)).trans HK3.out]);clear hb2) | (at_builtin;go_must (refine own_app elemEx _ rfl (.tmp 59) (.tmp 62) rfl (w.heap.size+4) _ _ _ rfl HOn.out [.int .i64 1,.int .i64 (k:Int),.string ⟨#[]⟩,.slice none 0 0] rfl (by simp[Value.oneCell']) _ 1 rfl (by simp) (by omega) (by omega) ?_)))
       intro v2' w4 hown4 hg4
       have HO4:=Lib.hid hown4
       have HB5:=Lib.hid (Below.grown (B:=w.heap.size+4) (HBn.out.alloc (by omega) _) hg4 (by simp;omega) (fun q hq=>(HOn.out.lt q hq).1))
       clear hown4 hg4
       go_wp2_with fail
       go_roundw
       case rel=>exact⟨k+1,by go_num,by omega,by (try rw[← numCells_one] at HO4);(try rw[← numCells_one] at HO3);rw[HSu.out,numCells_append,numCells_append,List.length_append,List.length_append];have h9:=HO4.out;simp only[List.append_assoc,List.append_nil,List.nil_append,List.length_nil,List.length_cons,Nat.zero_add,Nat.add_zero,Nat.add_assoc,numCells_one,numCells_nil] at h9⊢;exact h9,HB5.out⟩
       case measure=>(simp[intOf];try omega)
      ·skip
       have hka:((k:Int) == 0)=true:=by simp;omega
       rw[if_pos (Or.inl hk0)] at HSu
       clear hk0
       have hkc:((k:Int)+1 == (N:Int))=false:=by simp;omega
       have HPp:=Lib.hid (fun W (hW:Below w.heap.size w W)=>Positive_any ws aw cw ((k:Int)+1) W (HW.out.keep (keeps_of_below hW)))
       have hpp':posW ws ((k:Int)+1)=true:=hpp
       rw[hpp'] at HPp
       rw[if_neg (fun h9=>by rcases h9 with h9 | h9;omega;rw[hpp] at h9;simp at h9)] at HSu
       clear hpp hpp'
       go_wp2_with (first | (go_at_call 78;(with_reducible refine HP0.out.mono ?_);rintro e w1 ⟨rfl,rfl⟩) | (go_at_call 252;(with_reducible refine(hNum.out _).mono ?_);rintro e w2 ⟨rfl,hb2⟩;have HOn:=Lib.hid (ownsRow_below HO.out hb2);have HBn:=Lib.hid (HB.out.trans (hb2.mono (by have:=HB.out.size;omega)));have hz2:=HBn.out.size;have d1:w2.cell? ⟨w.heap.size+1,1,none⟩=some (.slice aw ws.length cw):=(by simp[World.cell?,(HBn.out.block (w.heap.size+1) (by omega)).trans HK1.out]);have v1:w2.cell? ⟨w.heap.size+1+1+1,1,none⟩=some (.int .i64 width):=(by simp[World.cell?,(HBn.out.block (w.heap.size+1+1+1) (by omega)).trans HK3.out]);clear hb2) | (at_builtin;go_must (refine own_app elemEx _ rfl (.tmp 40) (.tmp 43) rfl (w.heap.size+4) _ _ _ rfl HOn.out [.int .i64 1,.int .i64 (k:Int),.string ⟨#[]⟩,.slice none 0 0] rfl (by simp[Value.oneCell']) _ 1 rfl (by simp) (by omega) (by omega) ?_)))
       intro v1' w3 hown3 hg3
       have HO3:=Lib.hid hown3
       have HB3:=Lib.hid (Below.grown (B:=w.heap.size+4) (HBn.out.alloc (by omega) _) hg3 (by simp;omega) (fun q hq=>(HOn.out.lt q hq).1))
       clear hown3 hg3 d1 v1 HOn HBn hz2
       have hz3:=HB3.out.size
       have d1:w3.cell? ⟨w.heap.size+1,1,none⟩=some (.slice aw ws.length cw):=by simp[World.cell?,(HB3.out.block (w.heap.size+1) (by omega)).trans HK1.out]
       have v1:w3.cell? ⟨w.heap.size+1+1+1,1,none⟩=some (.int .i64 width):=by simp[World.cell?,(HB3.out.block (w.heap.size+1+1+1) (by omega)).trans HK3.out]
       have HB3w:Hid (Below w.heap.size w w3):=HB4.out.trans (HB3.out.mono (by omega))
       go_wp2_with (first | (go_at_call 78;(with_reducible refine(HPp.out _ HB3w.out).mono ?_);rintro e w1 ⟨rfl,rfl⟩))
       go_roundw
       case rel=>exact⟨k+1,by go_num,by omega,by (try rw[← numCells_one] at HO3);(try rw[← numCells_one] at HO3);rw[HSu.out,numCells_append,numCells_append,List.length_append,List.length_append];have h9:=HO3.out;simp only[List.append_assoc,List.append_nil,List.nil_append,List.length_nil,List.length_cons,Nat.zero_add,Nat.add_zero,Nat.add_assoc,numCells_one,numCells_nil] at h9⊢;exact h9,HB3.out⟩
       case measure=>(simp[intOf];try omega)
    ·cases hpm:posP ws (k - 1)
     ·by_cases hkN:k+1=N
      ·skip
       have hka:((k:Int) == 0)=false:=by simp;omega
       have hkw:((k - 1:Nat):Int)=(k:Int) - 1:=by omega
       have HPm:=Lib.hid (HP.out ((k:Int) - 1))
       have hpm':posW ws ((k:Int) - 1)=false:=by rw[← hkw];exact hpm
       rw[hpm'] at HPm
       rw[if_pos (Or.inr hpm)] at HSu
       clear hpm hpm' hkw
       have hkc:((k:Int)+1 == (N:Int))=true:=by simp;omega
       rw[if_pos (Or.inl hkN)] at HSu
       go_wp2_with (first | (go_at_call 78;(with_reducible refine HP0.out.mono ?_);rintro e w1 ⟨rfl,rfl⟩) | (go_at_call 78;(with_reducible refine HPm.out.mono ?_);rintro e w1 ⟨rfl,rfl⟩) | (go_at_call 252;(with_reducible refine(hNum.out _).mono ?_);rintro e w2 ⟨rfl,hb2⟩;have HOn:=Lib.hid (ownsRow_below HO.out hb2);have HBn:=Lib.hid (HB.out.trans (hb2.mono (by have:=HB.out.size;omega)));have hz2:=HBn.out.size;have d1:w2.cell? ⟨w.heap.size+1,1,none⟩=some (.slice aw ws.length cw):=(by simp[World.cell?,(HBn.out.block (w.heap.size+1) (by omega)).trans HK1.out]);have v1:w2.cell? ⟨w.heap.size+1+1+1,1,none⟩=some (.int .i64 width):=(by simp[World.cell?,(HBn.out.block (w.heap.size+1+1+1) (by omega)).trans HK3.out]);clear hb2) | (at_builtin;go_must (refine own_app elemEx _ rfl (.tmp 40) (.tmp 43) rfl (w.heap.size+4) _ _ _ rfl HOn.out [.int .i64 1,.int .i64 (k:Int),.string ⟨#[]⟩,.slice none 0 0] rfl (by simp[Value.oneCell']) _ 1 rfl (by simp) (by omega) (by omega) ?_)))
       intro v1' w3 hown3 hg3
       have HO3:=Lib.hid hown3
       have HB3:=Lib.hid (Below.grown (B:=w.heap.size+4) (HBn.out.alloc (by omega) _) hg3 (by simp;omega) (fun q hq=>(HOn.out.lt q hq).1))
       clear hown3 hg3 d1 v1 HOn HBn hz2
       have hz3:=HB3.out.size
       have d1:w3.cell? ⟨w.heap.size+1,1,none⟩=some (.slice aw ws.length cw):=by simp[World.cell?,(HB3.out.block (w.heap.size+1) (by omega)).trans HK1.out]
       have v1:w3.cell? ⟨w.heap.size+1+1+1,1,none⟩=some (.int .i64 width):=by simp[World.cell?,(HB3.out.block (w.heap.size+1+1+1) (by omega)).trans HK3.out]
       have HB3w:Hid (Below w.heap.size w w3):=HB4.out.trans (HB3.out.mono (by omega))
       go_wp2_with (first | (go_at_call 252;(with_reducible refine(hNum.out _).mono ?_);rintro e w2 ⟨rfl,hb2⟩;have HOn:=Lib.hid (ownsRow_below HO3.out hb2);have HBn:=Lib.hid (HB3.out.trans (hb2.mono (by have:=HB3.out.size;omega)));have hz2:=HBn.out.size;have d1:w2.cell? ⟨w.heap.size+1,1,none⟩=some (.slice aw ws.length cw):=(by simp[World.cell?,(HBn.out.block (w.heap.size+1) (by omega)).trans HK1.out]);have v1:w2.cell? ⟨w.heap.size+1+1+1,1,none⟩=some (.int .i64 width):=(by simp[World.cell?,(HBn.out.block (w.heap.size+1+1+1) (by omega)).trans HK3.out]);clear hb2) | (at_builtin;go_must (refine own_app elemEx _ rfl (.tmp 59) (.tmp 62) rfl (w.heap.size+4) _ _ _ rfl HOn.out [.int .i64 1,.int .i64 (k:Int),.string ⟨#[]⟩,.slice none 0 0] rfl (by simp[Value.oneCell']) _ 1 rfl (by simp) (by omega) (by omega) ?_)))
       intro v2' w4 hown4 hg4
       have HO4:=Lib.hid hown4
       have HB5:=Lib.hid (Below.grown (B:=w.heap.size+4) (HBn.out.alloc (by omega) _) hg4 (by simp;omega) (fun q hq=>(HOn.out.lt q hq).1))
       clear hown4 hg4
       go_wp2_with fail
       go_roundw
       case rel=>exact⟨k+1,by go_num,by omega,by (try rw[← numCells_one] at HO4);(try rw[← numCells_one] at HO3);rw[HSu.out,numCells_append,numCells_append,List.length_append,List.length_append];have h9:=HO4.out;simp only[List.append_assoc,List.append_nil,List.nil_append,List.length_nil,List.length_cons,Nat.zero_add,Nat.add_zero,Nat.add_assoc,numCells_one,numCells_nil] at h9⊢;exact h9,HB5.out⟩
       case measure=>(simp[intOf];try omega)
      ·cases hpp:posP ws (k+1)
       ·skip
        have hka:((k:Int) == 0)=false:=by simp;omega
        have hkw:((k - 1:Nat):Int)=(k:Int) - 1:=by omega
        have HPm:=Lib.hid (HP.out ((k:Int) - 1))
        have hpm':posW ws ((k:Int) - 1)=false:=by rw[← hkw];exact hpm
        rw[hpm'] at HPm
        rw[if_pos (Or.inr hpm)] at HSu
        clear hpm hpm' hkw
        have hkc:((k:Int)+1 == (N:Int))=false:=by simp;omega
        have HPp:=Lib.hid (fun W (hW:Below w.heap.size w W)=>Positive_any ws aw cw ((k:Int)+1) W (HW.out.keep (keeps_of_below hW)))
        have hpp':posW ws ((k:Int)+1)=false:=hpp
        rw[hpp'] at HPp
        rw[if_pos (Or.inr hpp)] at HSu
        clear hpp hpp'
        go_wp2_with (first | (go_at_call 78;(with_reducible refine HP0.out.mono ?_);rintro e w1 ⟨rfl,rfl⟩) | (go_at_call 78;(with_reducible refine HPm.out.mono ?_);rintro e w1 ⟨rfl,rfl⟩) | (go_at_call 252;(with_reducible refine(hNum.out _).mono ?_);rintro e w2 ⟨rfl,hb2⟩;have HOn:=Lib.hid (ownsRow_below HO.out hb2);have HBn:=Lib.hid (HB.out.trans (hb2.mono (by have:=HB.out.size;omega)));have hz2:=HBn.out.size;have d1:w2.cell? ⟨w.heap.size+1,1,none⟩=some (.slice aw ws.length cw):=(by simp[World.cell?,(HBn.out.block (w.heap.size+1) (by omega)).trans HK1.out]);have v1:w2.cell? ⟨w.heap.size+1+1+1,1,none⟩=some (.int .i64 width):=(by simp[World.cell?,(HBn.out.block (w.heap.size+1+1+1) (by omega)).trans HK3.out]);clear hb2) | (at_builtin;go_must (refine own_app elemEx _ rfl (.tmp 40) (.tmp 43) rfl (w.heap.size+4) _ _ _ rfl HOn.out [.int .i64 1,.int .i64 (k:Int),.string ⟨#[]⟩,.slice none 0 0] rfl (by simp[Value.oneCell']) _ 1 rfl (by simp) (by omega) (by omega) ?_)))
        intro v1' w3 hown3 hg3
        have HO3:=Lib.hid hown3
        have HB3:=Lib.hid (Below.grown (B:=w.heap.size+4) (HBn.out.alloc (by omega) _) hg3 (by simp;omega) (fun q hq=>(HOn.out.lt q hq).1))
        clear hown3 hg3 d1 v1 HOn HBn hz2
        have hz3:=HB3.out.size
        have d1:w3.cell? ⟨w.heap.size+1,1,none⟩=some (.slice aw ws.length cw):=by simp[World.cell?,(HB3.out.block (w.heap.size+1) (by omega)).trans HK1.out]
        have v1:w3.cell? ⟨w.heap.size+1+1+1,1,none⟩=some (.int .i64 width):=by simp[World.cell?,(HB3.out.block (w.heap.size+1+1+1) (by omega)).trans HK3.out]
        have HB3w:Hid (Below w.heap.size w w3):=HB4.out.trans (HB3.out.mono (by omega))
        go_wp2_with (first | (go_at_call 78;(with_reducible refine(HPp.out _ HB3w.out).mono ?_);rintro e w1 ⟨rfl,rfl⟩) | (go_at_call 252;(with_reducible refine(hNum.out _).mono ?_);rintro e w2 ⟨rfl,hb2⟩;have HOn:=Lib.hid (ownsRow_below HO3.out hb2);have HBn:=Lib.hid (HB3.out.trans (hb2.mono (by have:=HB3.out.size;omega)));have hz2:=HBn.out.size;have d1:w2.cell? ⟨w.heap.size+1,1,none⟩=some (.slice aw ws.length cw):=(by simp[World.cell?,(HBn.out.block (w.heap.size+1) (by omega)).trans HK1.out]);have v1:w2.cell? ⟨w.heap.size+1+1+1,1,none⟩=some (.int .i64 width):=(by simp[World.cell?,(HBn.out.block (w.heap.size+1+1+1) (by omega)).trans HK3.out]);clear hb2) | (at_builtin;go_must (refine own_app elemEx _ rfl (.tmp 59) (.tmp 62) rfl (w.heap.size+4) _ _ _ rfl HOn.out [.int .i64 1,.int .i64 (k:Int),.string ⟨#[]⟩,.slice none 0 0] rfl (by simp[Value.oneCell']) _ 1 rfl (by simp) (by omega) (by omega) ?_)))
        intro v2' w4 hown4 hg4
        have HO4:=Lib.hid hown4
        have HB5:=Lib.hid (Below.grown (B:=w.heap.size+4) (HBn.out.alloc (by omega) _) hg4 (by simp;omega) (fun q hq=>(HOn.out.lt q hq).1))
        clear hown4 hg4
        go_wp2_with fail
        go_roundw
        case rel=>exact⟨k+1,by go_num,by omega,by (try rw[← numCells_one] at HO4);(try rw[← numCells_one] at HO3);rw[HSu.out,numCells_append,numCells_append,List.length_append,List.length_append];have h9:=HO4.out;simp only[List.append_assoc,List.append_nil,List.nil_append,List.length_nil,List.length_cons,Nat.zero_add,Nat.add_zero,Nat.add_assoc,numCells_one,numCells_nil] at h9⊢;exact h9,HB5.out⟩
        case measure=>(simp[intOf];try omega)
       ·skip
        have hka:((k:Int) == 0)=false:=by simp;omega
        have hkw:((k - 1:Nat):Int)=(k:Int) - 1:=by omega
        have HPm:=Lib.hid (HP.out ((k:Int) - 1))
        have hpm':posW ws ((k:Int) - 1)=false:=by rw[← hkw];exact hpm
        rw[hpm'] at HPm
        rw[if_pos (Or.inr hpm)] at HSu
        clear hpm hpm' hkw
        have hkc:((k:Int)+1 == (N:Int))=false:=by simp;omega
        have HPp:=Lib.hid (fun W (hW:Below w.heap.size w W)=>Positive_any ws aw cw ((k:Int)+1) W (HW.out.keep (keeps_of_below hW)))
        have hpp':posW ws ((k:Int)+1)=true:=hpp
        rw[hpp'] at HPp
        rw[if_neg (fun h9=>by rcases h9 with h9 | h9;omega;rw[hpp] at h9;simp at h9)] at HSu
        clear hpp hpp'
        go_wp2_with (first | (go_at_call 78;(with_reducible refine HP0.out.mono ?_);rintro e w1 ⟨rfl,rfl⟩) | (go_at_call 78;(with_reducible refine HPm.out.mono ?_);rintro e w1 ⟨rfl,rfl⟩) | (go_at_call 252;(with_reducible refine(hNum.out _).mono ?_);rintro e w2 ⟨rfl,hb2⟩;have HOn:=Lib.hid (ownsRow_below HO.out hb2);have HBn:=Lib.hid (HB.out.trans (hb2.mono (by have:=HB.out.size;omega)));have hz2:=HBn.out.size;have d1:w2.cell? ⟨w.heap.size+1,1,none⟩=some (.slice aw ws.length cw):=(by simp[World.cell?,(HBn.out.block (w.heap.size+1) (by omega)).trans HK1.out]);have v1:w2.cell? ⟨w.heap.size+1+1+1,1,none⟩=some (.int .i64 width):=(by simp[World.cell?,(HBn.out.block (w.heap.size+1+1+1) (by omega)).trans HK3.out]);clear hb2) | (at_builtin;go_must (refine own_app elemEx _ rfl (.tmp 40) (.tmp 43) rfl (w.heap.size+4) _ _ _ rfl HOn.out [.int .i64 1,.int .i64 (k:Int),.string ⟨#[]⟩,.slice none 0 0] rfl (by simp[Value.oneCell']) _ 1 rfl (by simp) (by omega) (by omega) ?_)))
        intro v1' w3 hown3 hg3
        have HO3:=Lib.hid hown3
        have HB3:=Lib.hid (Below.grown (B:=w.heap.size+4) (HBn.out.alloc (by omega) _) hg3 (by simp;omega) (fun q hq=>(HOn.out.lt q hq).1))
        clear hown3 hg3 d1 v1 HOn HBn hz2
        have hz3:=HB3.out.size
        have d1:w3.cell? ⟨w.heap.size+1,1,none⟩=some (.slice aw ws.length cw):=by simp[World.cell?,(HB3.out.block (w.heap.size+1) (by omega)).trans HK1.out]
        have v1:w3.cell? ⟨w.heap.size+1+1+1,1,none⟩=some (.int .i64 width):=by simp[World.cell?,(HB3.out.block (w.heap.size+1+1+1) (by omega)).trans HK3.out]
        have HB3w:Hid (Below w.heap.size w w3):=HB4.out.trans (HB3.out.mono (by omega))
        go_wp2_with (first | (go_at_call 78;(with_reducible refine(HPp.out _ HB3w.out).mono ?_);rintro e w1 ⟨rfl,rfl⟩))
        go_roundw
        case rel=>exact⟨k+1,by go_num,by omega,by (try rw[← numCells_one] at HO3);(try rw[← numCells_one] at HO3);rw[HSu.out,numCells_append,numCells_append,List.length_append,List.length_append];have h9:=HO3.out;simp only[List.append_assoc,List.append_nil,List.nil_append,List.length_nil,List.length_cons,Nat.zero_add,Nat.add_zero,Nat.add_assoc,numCells_one,numCells_nil] at h9⊢;exact h9,HB3.out⟩
        case measure=>(simp[intOf];try omega)
     ·by_cases hkN:k+1=N
      ·skip
       have hka:((k:Int) == 0)=false:=by simp;omega
       have hkw:((k - 1:Nat):Int)=(k:Int) - 1:=by omega
       have HPm:=Lib.hid (HP.out ((k:Int) - 1))
       have hpm':posW ws ((k:Int) - 1)=true:=by rw[← hkw];exact hpm
       rw[hpm'] at HPm
       rw[if_neg (fun h9=>by rcases h9 with h9 | h9;omega;rw[hpm] at h9;simp at h9)] at HSu
       clear hpm hpm' hkw
       have hkc:((k:Int)+1 == (N:Int))=true:=by simp;omega
       rw[if_pos (Or.inl hkN)] at HSu
       go_wp2_with (first | (go_at_call 78;(with_reducible refine HP0.out.mono ?_);rintro e w1 ⟨rfl,rfl⟩) | (go_at_call 78;(with_reducible refine HPm.out.mono ?_);rintro e w1 ⟨rfl,rfl⟩) | (go_at_call 252;(with_reducible refine(hNum.out _).mono ?_);rintro e w2 ⟨rfl,hb2⟩;have HOn:=Lib.hid (ownsRow_below HO.out hb2);have HBn:=Lib.hid (HB.out.trans (hb2.mono (by have:=HB.out.size;omega)));have hz2:=HBn.out.size;have d1:w2.cell? ⟨w.heap.size+1,1,none⟩=some (.slice aw ws.length cw):=(by simp[World.cell?,(HBn.out.block (w.heap.size+1) (by omega)).trans HK1.out]);have v1:w2.cell? ⟨w.heap.size+1+1+1,1,none⟩=some (.int .i64 width):=(by simp[World.cell?,(HBn.out.block (w.heap.size+1+1+1) (by omega)).trans HK3.out]);clear hb2) | (at_builtin;go_must (refine own_app elemEx _ rfl (.tmp 59) (.tmp 62) rfl (w.heap.size+4) _ _ _ rfl HOn.out [.int .i64 1,.int .i64 (k:Int),.string ⟨#[]⟩,.slice none 0 0] rfl (by simp[Value.oneCell']) _ 1 rfl (by simp) (by omega) (by omega) ?_)))
       intro v2' w4 hown4 hg4
       have HO4:=Lib.hid hown4
       have HB5:=Lib.hid (Below.grown (B:=w.heap.size+4) (HBn.out.alloc (by omega) _) hg4 (by simp;omega) (fun q hq=>(HOn.out.lt q hq).1))
       clear hown4 hg4
       go_wp2_with fail
       go_roundw
       case rel=>exact⟨k+1,by go_num,by omega,by (try rw[← numCells_one] at HO4);(try rw[← numCells_one] at HO3);rw[HSu.out,numCells_append,numCells_append,List.length_append,List.length_append];have h9:=HO4.out;simp only[List.append_assoc,List.append_nil,List.nil_append,List.length_nil,List.length_cons,Nat.zero_add,Nat.add_zero,Nat.add_assoc,numCells_one,numCells_nil] at h9⊢;exact h9,HB5.out⟩
       case measure=>(simp[intOf];try omega)
      ·cases hpp:posP ws (k+1)
       ·skip
        have hka:((k:Int) == 0)=false:=by simp;omega
        have hkw:((k - 1:Nat):Int)=(k:Int) - 1:=by omega
        have HPm:=Lib.hid (HP.out ((k:Int) - 1))
        have hpm':posW ws ((k:Int) - 1)=true:=by rw[← hkw];exact hpm
        rw[hpm'] at HPm
        rw[if_neg (fun h9=>by rcases h9 with h9 | h9;omega;rw[hpm] at h9;simp at h9)] at HSu
        clear hpm hpm' hkw
        have hkc:((k:Int)+1 == (N:Int))=false:=by simp;omega
        have HPp:=Lib.hid (fun W (hW:Below w.heap.size w W)=>Positive_any ws aw cw ((k:Int)+1) W (HW.out.keep (keeps_of_below hW)))
        have hpp':posW ws ((k:Int)+1)=false:=hpp
        rw[hpp'] at HPp
        rw[if_pos (Or.inr hpp)] at HSu
        clear hpp hpp'
        go_wp2_with (first | (go_at_call 78;(with_reducible refine HP0.out.mono ?_);rintro e w1 ⟨rfl,rfl⟩) | (go_at_call 78;(with_reducible refine HPm.out.mono ?_);rintro e w1 ⟨rfl,rfl⟩) | (go_at_call 78;(with_reducible refine(HPp.out _ HBw.out).mono ?_);rintro e w1 ⟨rfl,rfl⟩) | (go_at_call 252;(with_reducible refine(hNum.out _).mono ?_);rintro e w2 ⟨rfl,hb2⟩;have HOn:=Lib.hid (ownsRow_below HO.out hb2);have HBn:=Lib.hid (HB.out.trans (hb2.mono (by have:=HB.out.size;omega)));have hz2:=HBn.out.size;have d1:w2.cell? ⟨w.heap.size+1,1,none⟩=some (.slice aw ws.length cw):=(by simp[World.cell?,(HBn.out.block (w.heap.size+1) (by omega)).trans HK1.out]);have v1:w2.cell? ⟨w.heap.size+1+1+1,1,none⟩=some (.int .i64 width):=(by simp[World.cell?,(HBn.out.block (w.heap.size+1+1+1) (by omega)).trans HK3.out]);clear hb2) | (at_builtin;go_must (refine own_app elemEx _ rfl (.tmp 59) (.tmp 62) rfl (w.heap.size+4) _ _ _ rfl HOn.out [.int .i64 1,.int .i64 (k:Int),.string ⟨#[]⟩,.slice none 0 0] rfl (by simp[Value.oneCell']) _ 1 rfl (by simp) (by omega) (by omega) ?_)))
        intro v2' w4 hown4 hg4
        have HO4:=Lib.hid hown4
        have HB5:=Lib.hid (Below.grown (B:=w.heap.size+4) (HBn.out.alloc (by omega) _) hg4 (by simp;omega) (fun q hq=>(HOn.out.lt q hq).1))
        clear hown4 hg4
        go_wp2_with fail
        go_roundw
        case rel=>exact⟨k+1,by go_num,by omega,by (try rw[← numCells_one] at HO4);(try rw[← numCells_one] at HO3);rw[HSu.out,numCells_append,numCells_append,List.length_append,List.length_append];have h9:=HO4.out;simp only[List.append_assoc,List.append_nil,List.nil_append,List.length_nil,List.length_cons,Nat.zero_add,Nat.add_zero,Nat.add_assoc,numCells_one,numCells_nil] at h9⊢;exact h9,HB5.out⟩
        case measure=>(simp[intOf];try omega)
       ·skip
        have hka:((k:Int) == 0)=false:=by simp;omega
        have hkw:((k - 1:Nat):Int)=(k:Int) - 1:=by omega
        have HPm:=Lib.hid (HP.out ((k:Int) - 1))
        have hpm':posW ws ((k:Int) - 1)=true:=by rw[← hkw];exact hpm
        rw[hpm'] at HPm
        rw[if_neg (fun h9=>by rcases h9 with h9 | h9;omega;rw[hpm] at h9;simp at h9)] at HSu
        clear hpm hpm' hkw
        have hkc:((k:Int)+1 == (N:Int))=false:=by simp;omega
        have HPp:=Lib.hid (fun W (hW:Below w.heap.size w W)=>Positive_any ws aw cw ((k:Int)+1) W (HW.out.keep (keeps_of_below hW)))
        have hpp':posW ws ((k:Int)+1)=true:=hpp
        rw[hpp'] at HPp
        rw[if_neg (fun h9=>by rcases h9 with h9 | h9;omega;rw[hpp] at h9;simp at h9)] at HSu
        clear hpp hpp'
        go_wp2_with (first | (go_at_call 78;(with_reducible refine HP0.out.mono ?_);rintro e w1 ⟨rfl,rfl⟩) | (go_at_call 78;(with_reducible refine HPm.out.mono ?_);rintro e w1 ⟨rfl,rfl⟩) | (go_at_call 78;(with_reducible refine(HPp.out _ HBw.out).mono ?_);rintro e w1 ⟨rfl,rfl⟩))
        go_roundw
        case rel=>exact⟨k+1,by go_num,by omega,by (try rw[← numCells_one] at HO);(try rw[← numCells_one] at HO3);rw[HSu.out,numCells_append,numCells_append,List.length_append,List.length_append];have h9:=HO.out;simp only[List.append_assoc,List.append_nil,List.nil_append,List.length_nil,List.length_cons,Nat.zero_add,Nat.add_zero,Nat.add_assoc,numCells_one,numCells_nil] at h9⊢;exact h9,HB.out⟩
        case measure=>(simp[intOf];try omega)
  ·rename World=>w5
   obtain rfl:k=N:=by omega
   have HLb:Hid (boundsTo (posP ws) k k=boundsN (fun n=>posW ws (n:Int)) k):=rfl
   generalize boundsTo (posP ws) k k=L at HO hpl HLb
   have HN0:=Lib.hid (r22number_any 0 w5)
   have hll:L.length≤512:=by omega
   obtain⟨ba,bc,rfl,hbS⟩:=slice_of_own HO.out (by omega)
   have HbS:=Lib.hid hbS
   have hbcap:=hbS.1
   clear hbS
   clear hwk1 hwk2
   go_wp2_with (go_at_call 252;(with_reducible refine HN0.out.mono ?_);rintro e w6 ⟨rfl,hb6⟩;have HO6:=Lib.hid (ownsRow_below HO.out hb6);have HB6:=Lib.hid (HB.out.trans (hb6.mono (by omega)));have hz6:=hb6.size;have HB56:=Lib.hid hb6;clear hb6)
   have HKe:Hid ((w6.alloc (.cells #[.int .i64 1,.int .i64 0,.string ⟨#[]⟩,.slice none 0 0] 55)).heap[w6.heap.size]? = some (.cells #[.int .i64 1,.int .i64 0,.string ⟨#[]⟩,.slice none 0 0] 55 (0,0))):=heap_alloc_new' _ _
   have HB7:Hid (Below w6.heap.size (w6.alloc (.cells #[.int .i64 1,.int .i64 0,.string ⟨#[]⟩,.slice none 0 0] 55)) (w6.alloc (.cells #[.int .i64 1,.int .i64 0,.string ⟨#[]⟩,.slice none 0 0] 55))):=Below.refl _ _
   go_loopw [9,10,11] (fun i _ _ wr=>∃ (q c:Nat) (e:Ex) (ea:Option Addr) (ec:Nat),i=.int .i64 (q:Int)∧Hid (q=32 * c)∧q < L.length+32∧Hid (chE name L c=e)∧Hid (ExOn (w6.heap.size+1≤·) wr e ea ec)∧Hid (wr.heap[w6.heap.size]? = some (.cells #[.int .i64 e.op,.int .i64 e.n,.string e.name,.slice ea e.args.length ec] 55 (0,0)))∧Below w6.heap.size (w6.alloc (.cells #[.int .i64 1,.int .i64 0,.string ⟨#[]⟩,.slice none 0 0] 55)) wr) (fun i _ _ _=>L.length+32 - (intOf i).toNat)
   case atStart=>exact⟨0,0,cE 0,none,0,rfl,rfl,by omega,rfl,exOn_leaf _ _ _ _ _ (by decide),HKe.out,HB7.out⟩
   case round =>
    obtain⟨q,c,e,ea,ec,rfl,Hqc,hc,HE,HX,HKx,hB⟩:=hrel
    have HBr:=Lib.hid hB
    have hzr:=hB.size
    simp only[World.size_alloc] at hzr
    clear hB
    have hlt6:W4.heap.size≤w6.heap.size:=by omega
    have HBA:Hid (Below (w.heap.size+4) W4 wr):=(HB6.out.alloc (by omega) (.cells #[.int .i64 1,.int .i64 0,.string ⟨#[]⟩,.slice none 0 0] 55)).trans (HBr.out.mono (by omega))
    have HBw6:Hid (Below w.heap.size w wr):=HB4.out.trans (HBA.out.mono (by omega))
    have HKa:=Lib.hid ((HBA.out.block _ (by omega)).trans HK2.out)
    have HKv:=Lib.hid ((HBA.out.block _ (by omega)).trans HK3.out)
    have v0:wr.cell? ⟨w.heap.size+1+1+1,0,none⟩=some (.string name):=by simp[World.cell?,HKv.out]
    have e0:wr.cell? ⟨w6.heap.size,0,none⟩=some (.int .i64 e.op):=by simp[World.cell?,HKx.out]
    have e1:wr.cell? ⟨w6.heap.size,1,none⟩=some (.int .i64 e.n):=by simp[World.cell?,HKx.out]
    have e2:wr.cell? ⟨w6.heap.size,2,none⟩=some (.string e.name):=by simp[World.cell?,HKx.out]
    have e3:wr.cell? ⟨w6.heap.size,3,none⟩=some (.slice ea e.args.length ec):=by simp[World.cell?,HKx.out]
    have ef:∀ j,wr.frozen? ⟨w6.heap.size,j,none⟩=false:=fun j=>by simp[World.frozen?,HKx.out]
    generalize hop:e.op=op9 at e0
    generalize hnn:e.n=n9 at e1
    generalize hnm9:e.name=nm9 at e2
    generalize hal:e.args.length=al9 at e3
    have HOp:=Lib.hid (⟨hop,hnn,hnm9,hal⟩:_∧_∧_∧_)
    clear hop hnn hnm9 hal
    by_cases hlt:q < L.length
    ·obtain⟨bb,bo,hba,hbq⟩:=HbS.out.2.2.resolve_left (by omega)
     subst hba
     have hbq5:=keeps_of_below (show Below w5.heap.size w5 wr from (HB56.out.alloc (by omega) (.cells #[.int .i64 1,.int .i64 0,.string ⟨#[]⟩,.slice none 0 0] 55)).trans (HBr.out.mono (by omega)))
     obtain⟨m,Hm,hmin,hm1,hm32⟩:∃ m,Hid (m=min 32 (L.length - q))∧min ((q:Int)+32) (L.length:Int)=((q+m:Nat):Int)∧1≤m∧m≤32∧q+m≤L.length:=⟨_,rfl,by omega,by omega,by omega,by omega⟩
     have hq1:IntKind.i64.wrap ((q:Int)+32)=(q:Int)+32:=by rw[IntKind.wrap_i64];omega
     have hne:¬ bc=q:=by omega
     have hqm:q+m≤L.length:=hm32.2
     have hqm2:q+m≤bc:=by omega
     have HKx9:Hid (wr.heap[w6.heap.size]? = some (.cells #[.int .i64 op9,.int .i64 n9,.string nm9,.slice ea al9 ec] 55 (0,0))):=by
      show _=_
      obtain⟨h1,h2,h3,h4⟩:=HOp.out
      rw[HKx.out,h1,h2,h3,h4]
     have HN1:Hid (∀ j u,(numCells ((L.drop q).take m))[j]? = some u→(wr.alloc (.cells #[.int .i64 2,.int .i64 0,.string name,.slice none 0 0] 55)).cell? ⟨bb,bo+q * 4+j,none⟩=some u):=fun j u hu=>by
      have hj:j < m * 4:=by
       have h9:=(List.getElem?_eq_some_iff.1 hu).1
       rw[numCells_len,List.length_take] at h9
       omega
      rw[numCells_part hqm hj] at hu
      have h9:=hbq (q+j / 4) (by omega) (j % 4) (by omega)
      rw[show bo+(q+j / 4) * 4+j % 4=bo+q * 4+j from by omega,show (q+j / 4) * 4+j % 4=q * 4+j from by omega] at h9
      have h8:=hbq5 _ _ (h9.trans hu)
      exact(World.cell?_alloc_lt _ _ _ (World.block_lt_of_cell? _ _ h8)).trans h8
     have hnl:(numCells ((L.drop q).take m)).length=m * 4:=by rw[numCells_len,List.length_take,List.length_drop];congr 1;omega
     have ho1:∀ u,u∈numCells ((L.drop q).take m)→u.oneCell'=true:=fun u hu=>by
      unfold numCells at hu
      obtain⟨n,_,hu⟩:=List.mem_flatMap.1 hu
      simp at hu
      rcases hu with rfl | rfl | rfl | rfl<;>simp[Value.oneCell']
     have HArg:Hid (∀ (W:World) (aa:Option Addr) (ac:Nat),W.ownsRow wr.heap.size 55 4 (.slice aa (1+m) ac) (1+m) ([.int .i64 2,.int .i64 0,.string name,.slice none 0 0]++numCells ((L.drop q).take m))→ExOn (w6.heap.size+1≤·) W (iE name ((L.drop q).take 32)) aa ac):=fun W aa ac h=>by
      have hml:((L.drop q).take m).length=m:=by rw[List.length_take,List.length_drop];omega
      have hmt:(L.drop q).take 32=(L.drop q).take m:=by
       rw[Hm.out]
       by_cases h9:32≤L.length - q
       ·rw[Nat.min_eq_left h9]
       ·rw[Nat.min_eq_right (by omega),List.take_of_length_le (by rw[List.length_drop];omega),List.take_of_length_le (by rw[List.length_drop];omega)]
      rw[hmt]
      exact args_on hnm (by omega) (by rw[hml];exact h) (fun k hk=>by show w6.heap.size+1≤k;omega)
     have HAl:Hid ((iE name ((L.drop q).take 32)).args.length=1+m):=by show _=_;rw[iE_len,List.length_take,List.length_drop];have:=Hm.out;omega
     generalize numCells ((L.drop q).take m)=news at HN1 hnl ho1 HArg
     have HOl:Hid ((wr.alloc (.cells #[.int .i64 2,.int .i64 0,.string name,.slice none 0 0] 55)).ownsRow wr.heap.size 55 4 (.slice (some ⟨wr.heap.size,0,none⟩) 1 1) 1 [.int .i64 2,.int .i64 0,.string name,.slice none 0 0]):=World.ownsRow_lit (base:=wr.heap.size) (e:=55) (size:=4) wr #[.int .i64 2,.int .i64 0,.string name,.slice none 0 0] 1 (Nat.le_refl _) (by unfold maxLen;omega) rfl
     go_wp2_with (at_builtin;go_must (refine own_row elemEx _ rfl (.tmp 75) (.tmp 83) rfl wr.heap.size _ 1 _ rfl HOl.out news bb (bo+q * 4) m (bc - q) hnl HN1.out ho1 (by first | rfl | (simp[Act.eval,Act.put,hne];done) | (simp[Act.eval,Act.put];omega)) (by omega) (by simp) ?_))
     intro v7 w7 hown7 hg7
     have hb7:Below wr.heap.size wr w7:=Below.grown (B:=wr.heap.size) ((Below.refl _ _).alloc (Nat.le_refl _) _) hg7 (by simp) (fun p hp=>(HOl.out.lt p hp).1)
     obtain⟨aa,ac,rfl,haS⟩:=slice_of_own hown7 (by omega)
     have HX7:=Lib.hid (HArg.out w7 aa ac hown7)
     have HE7:=Lib.hid (HX.out.keep (agree_below hb7))
     have HB7r:=Lib.hid hb7
     have hz7:=hb7.size
     have hlt7:w6.heap.size < w7.heap.size:=by omega
     have hbe:w6.heap.size≠w7.heap.size:=by omega
     have HKA:=Lib.hid (fun (o:Obj)=>(Below.heap_alloc w7 o w6.heap.size hlt7).trans ((hb7.block _ (by omega)).trans HKx9.out))
     have HK7:=Lib.hid ((hb7.block _ (by omega)).trans HKx9.out)
     obtain⟨r0,r1,r2,r3,rf⟩:=cells_of_blk HK7.out
     have g0:∀ o,(w7.alloc o).cell? ⟨w6.heap.size,0,none⟩=some (.int .i64 op9):=fun o=>(cells_of_blk (HKA.out o)).1
     have g1:∀ o,(w7.alloc o).cell? ⟨w6.heap.size,1,none⟩=some (.int .i64 n9):=fun o=>(cells_of_blk (HKA.out o)).2.1
     have g2:∀ o,(w7.alloc o).cell? ⟨w6.heap.size,2,none⟩=some (.string nm9):=fun o=>(cells_of_blk (HKA.out o)).2.2.1
     have g3:∀ o,(w7.alloc o).cell? ⟨w6.heap.size,3,none⟩=some (.slice ea al9 ec):=fun o=>(cells_of_blk (HKA.out o)).2.2.2.1
     have gf:∀ o j,(w7.alloc o).frozen? ⟨w6.heap.size,j,none⟩=false:=fun o=>(cells_of_blk (HKA.out o)).2.2.2.2
     clear hown7 hg7 hb7 haS HN1 hnl ho1 HArg hbq hbq5 HOl v0 e0 e1 e2 e3 ef
     by_cases hq0:q=0
     ·have hd0:((q:Int) == 0)=true:=by simp[hq0]
      have Hq0:=Lib.hid hq0
      clear hq0
      go_wp2_with fail
      have hk4:=put4_blk HK7.out (.int .i64 23) (.int .i64 0) (.string ⟨#[]⟩) (.slice aa (1+m) ac)
      have HBn:Hid (Below w6.heap.size (w6.alloc (.cells #[.int .i64 1,.int .i64 0,.string ⟨#[]⟩,.slice none 0 0] 55)) w7):=HBr.out.trans (HB7r.out.mono (by omega))
      have HCh:Hid (chE name L (c+1)=iE name ((L.drop q).take 32)):=by
       show _=_
       have h1:=Hq0.out
       have h2:=Hqc.out
       obtain rfl:c=0:=by omega
       rw[h1,List.drop_zero]
       exact chE_one _ _
      have HQ:Hid (q+32=32 * (c+1)):=by show _=_;have:=Hqc.out;omega
      go_roundw
      case rel =>
       refine⟨q+32,c+1,iE name ((L.drop q).take 32),aa,ac,by go_num,HQ.out,by omega,HCh.out,(HX7.out.keep (agree_put4 (fun h=>by have h':w6.heap.size+1≤w6.heap.size:=h;omega) _ _ _ _)).keep (agree_alloc _ _),?_,((((HBn.out.setCell (Nat.le_refl _) _).setCell (Nat.le_refl _) _).setCell (Nat.le_refl _) _).setCell (Nat.le_refl _) _).alloc (by simp only[World.size_setCell];omega) _⟩
       show _=some (Obj.cells #[.int .i64 23,.int .i64 0,.string ⟨#[]⟩,.slice aa (iE name ((L.drop q).take 32)).args.length ac] 55 (0,0))
       rw[HAl.out]
       exact(Below.heap_alloc _ _ _ (by simp only[World.size_setCell];omega)).trans hk4
      case measure=>(simp[intOf];try omega)
     ·have hd0:((q:Int) == 0)=false:=by simp;omega
      have Hq0:=Lib.hid hq0
      clear hq0
      go_wp2_with fail
      have hk4:=put4_blk HK7.out (.int .i64 20) (.int .i64 0) (.string ⟨#[]⟩) (.slice (some ⟨w7.heap.size+1,0,none⟩) 2 2)
      have HBn:Hid (Below w6.heap.size (w6.alloc (.cells #[.int .i64 1,.int .i64 0,.string ⟨#[]⟩,.slice none 0 0] 55)) w7):=HBr.out.trans (HB7r.out.mono (by omega))
      have HCh:Hid (chE name L (c+1)=eE e (iE name ((L.drop q).take 32))):=by
       show _=_
       have h1:=Hq0.out
       have h2:=Hqc.out
       rw[chE_succ name L c (by omega),HE.out,← h2]
      have HQ:Hid (q+32=32 * (c+1)):=by show _=_;have:=Hqc.out;omega
      obtain⟨rfl,rfl,rfl,rfl⟩:=HOp.out
      go_roundw
      case rel =>
       refine⟨q+32,c+1,eE e (iE name ((L.drop q).take 32)),some ⟨w7.heap.size+1,0,none⟩,2,by go_num,HQ.out,by omega,HCh.out,?_,(Below.heap_alloc _ _ _ (by simp only[World.size_alloc,World.size_setCell];omega)).trans ((Below.heap_alloc _ _ _ (by simp only[World.size_setCell];omega)).trans hk4),(((((HBn.out.setCell (Nat.le_refl _) _).setCell (Nat.le_refl _) _).setCell (Nat.le_refl _) _).setCell (Nat.le_refl _) _).alloc (by simp only[World.size_setCell];omega) _).alloc (by simp only[World.size_alloc,World.size_setCell];omega) _⟩
       have h:=exOn_pair (S:=(w6.heap.size+1≤·)) (w:=((((w7.setCell ⟨w6.heap.size,0,none⟩ (.int .i64 20)).setCell ⟨w6.heap.size,1,none⟩ (.int .i64 0)).setCell ⟨w6.heap.size,2,none⟩ (.string ⟨#[]⟩)).setCell ⟨w6.heap.size,3,none⟩ (.slice (some ⟨w7.heap.size+1,0,none⟩) 2 2)).alloc (.cells #[.int .i64 23,.int .i64 0,.string ⟨#[]⟩,.slice aa (1+m) ac] 55)) ((HE7.out.keep (agree_put4 (fun h=>by have h':w6.heap.size+1≤w6.heap.size:=h;omega) _ _ _ _)).keep (agree_alloc _ _)) ((HX7.out.keep (agree_put4 (fun h=>by have h':w6.heap.size+1≤w6.heap.size:=h;omega) _ _ _ _)).keep (agree_alloc _ _)) (by simp only[World.size_alloc,World.size_setCell];omega)
       rw[HAl.out] at h
       simp only[World.size_alloc,World.size_setCell] at h
       exact h
      case measure=>(simp[intOf];try omega)
    ·have hce:(L.length+31) / 32=c:=by have:=Hqc.out;omega
     have HRe:Hid (R=e):=by
      show _=_
      rw[HSc.out,← HLb.out,← HE.out]
      unfold unE
      rw[hce]
     have r0:wr.cell? ⟨w.heap.size+1+1,0,none⟩=some (.int .i64 0):=by simp[World.cell?,HKa.out]
     have r1:wr.cell? ⟨w.heap.size+1+1,1,none⟩=some (.int .i64 0):=by simp[World.cell?,HKa.out]
     have r2:wr.cell? ⟨w.heap.size+1+1,2,none⟩=some (.string ⟨#[]⟩):=by simp[World.cell?,HKa.out]
     have r3:wr.cell? ⟨w.heap.size+1+1,3,none⟩=some (.slice none 0 0):=by simp[World.cell?,HKa.out]
     have rf:∀ j,wr.frozen? ⟨w.heap.size+1+1,j,none⟩=false:=fun j=>by simp[World.frozen?,HKa.out]
     clear hce
     go_wp2_with fail
     have hk4:=put4_blk HKa.out (.int .i64 op9) (.int .i64 n9) (.string nm9) (.slice ea al9 ec)
     (try rw[Exit.noGoto_ret])
     refine bodyPost_ret (v:=.agg #[.int .i64 op9,.int .i64 n9,.string nm9,.slice ea al9 ec]) (by simp[results, Tryz.results216,World.cell?,hk4,go_sem]) rfl ?_
     obtain⟨rfl,rfl,rfl,rfl⟩:=HOp.out
     rw[HRe.out]
     exact⟨ea,ec,rfl,(HX.out.keep (agree_put4 (fun h=>by omega) _ _ _ _)).mono (fun k h=>by show w.heap.size≤k;have h':w6.heap.size+1≤k:=h;omega),(((HBw6.out.setCell (show w.heap.size≤w.heap.size+1+1 by omega) _).setCell (show w.heap.size≤w.heap.size+1+1 by omega) _).setCell (show w.heap.size≤w.heap.size+1+1 by omega) _).setCell (show w.heap.size≤w.heap.size+1+1 by omega) _⟩
end Go.Proofs.YtcplmcjbkpmhdaaGreatDoor
namespace Go.Proofs.YtcplmcjbkpmhdaaGreatDoor
open Go.RowKit
attribute [local go_sem ↓] Go.wp_at_zero Go.wp_at_succ
end Go.Proofs.YtcplmcjbkpmhdaaGreatDoor
