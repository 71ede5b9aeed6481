/- law: two. -/
import Derived.Test.YtcplmcjbkpmhdaaGreatDoorKO
import Derived.Laws.ResultCell
set_option linter.unusedSimpArgs false
set_option linter.unusedVariables false
set_option linter.unnecessarySimpa false
namespace Go.Proofs.YtcplmcjbkpmhdaaGreatDoor
open Go.RowKit
def p2:ProbD:=⟨[⟨⟨#[120]⟩,1,1,0⟩,⟨⟨#[121]⟩,1,1,0⟩],[],[],[],[[0,1]]⟩
noncomputable def sum2:Ex:=.mk 7 0 ⟨#[]⟩ [.mk 2 0 ⟨#[120]⟩ [],.mk 2 0 ⟨#[121]⟩ []]
noncomputable def l2:List Ex:=[.mk 15 0 ⟨#[]⟩ [sum2,.mk 1 1 ⟨#[]⟩ []]]
def x2 (b:Nat):ProbA:=⟨some ⟨b+1,0,none⟩,2,none,0,none,0,none,0,some ⟨b+3,0,none⟩,1⟩
structure TwoBlk (W:World) (b:Nat):Prop where
 h1:W.heap[b+1]? = some (.cells #[.string ⟨#[120]⟩,.int .i64 1,.int .i64 1,.int .i64 0,.string ⟨#[121]⟩,.int .i64 1,.int .i64 1,.int .i64 0] 70 (0,0))
 h2:W.heap[b+2]? = some (.cells #[.int .i64 0,.int .i64 1] 3 (0,0))
 h3:W.heap[b+3]? = some (.cells #[.slice (some ⟨b+2,0,none⟩) 2 2] 30 (0,0))
 h5:W.heap[b+5]? = some (.cells #[.int .i64 2,.int .i64 0,.string ⟨#[120]⟩,.slice none 0 0,.int .i64 2,.int .i64 0,.string ⟨#[121]⟩,.slice none 0 0] 55 (0,0))
 h7:W.heap[b+7]? = some (.cells #[.int .i64 7,.int .i64 0,.string ⟨#[]⟩,.slice (some ⟨b+5,0,none⟩) 2 2,.int .i64 1,.int .i64 1,.string ⟨#[]⟩,.slice none 0 0] 55 (0,0))
 h8:W.heap[b+8]? = some (.cells #[.int .i64 15,.int .i64 0,.string ⟨#[]⟩,.slice (some ⟨b+7,0,none⟩) 2 2] 55 (0,0))
theorem cell_of_blk {W:World} {k:Nat} {c:Array Value} {t:TypeId} {fz:Nat × Nat} (h:W.heap[k]? = some (.cells c t fz)) (o:Nat):W.cell? ⟨k,o,none⟩=c[o]?:=by simp[World.cell?,h]
theorem TwoBlk.vars {W:World} {b:Nat} (h:TwoBlk W b):VarsIn W p2.vars (some ⟨b+1,0,none⟩) 2:=by
 refine⟨by simp[p2],by simp[p2],Or.inr ⟨b+1,0,rfl,fun i hi=>?_⟩⟩
 have hc:=cell_of_blk h.h1
 rcases i with _ | _ | i
 ·exact⟨_,rfl,by rw[hc];rfl,by rw[hc];rfl,by rw[hc];rfl,by rw[hc];rfl,by decide⟩
 ·exact⟨_,rfl,by rw[hc];rfl,by rw[hc];rfl,by rw[hc];rfl,by rw[hc];rfl,by decide⟩
 ·have:i+1+1 < 2:=hi
  omega
theorem TwoBlk.ints {W:World} {b:Nat} (h:TwoBlk W b):IntsIn W [0,1] (some ⟨b+2,0,none⟩) 2:=by
 refine⟨by simp,by simp,Or.inr ⟨b+2,0,rfl,fun i hi=>?_⟩⟩
 have hc:=cell_of_blk h.h2
 rcases i with _ | _ | i
 ·exact⟨_,rfl,by rw[hc];rfl⟩
 ·exact⟨_,rfl,by rw[hc];rfl⟩
 ·have:i+1+1 < 2:=hi
  omega
theorem TwoBlk.groups {W:World} {b:Nat} (h:TwoBlk W b):RowsIn W p2.groups (some ⟨b+3,0,none⟩) 1:=by
 refine⟨by simp[p2],by simp[p2],Or.inr ⟨b+3,0,rfl,fun i hi=>?_⟩⟩
 have hc:=cell_of_blk h.h3
 rcases i with _ | i
 ·exact⟨_,rfl,_,_,by rw[hc];rfl,h.ints⟩
 ·simp[p2] at hi
theorem TwoBlk.prob {W:World} {b:Nat} (h:TwoBlk W b):ProbIn W p2 (x2 b) :=
 ⟨h.vars,⟨by simp[p2],by simp[p2],Or.inl rfl⟩,⟨by simp[p2],by simp[p2],Or.inl rfl⟩,⟨by simp[p2],by simp[p2],Or.inl rfl⟩,h.groups⟩
theorem exsIn_nil (W:World):ExsIn W [] none 0:=⟨by simp,by simp,Or.inl rfl⟩
theorem leafIn (W:World) (op n:Int) (s:ByteArray) (hs:s.size≤1073741824):ExIn W (.mk op n s []) none 0:=⟨hs,exsIn_nil W⟩
theorem TwoBlk.sum {W:World} {b:Nat} (h:TwoBlk W b):ExIn W sum2 (some ⟨b+5,0,none⟩) 2:=by
 refine⟨by decide,by simp[sum2,Ex.args_mk],by simp[sum2,Ex.args_mk],Or.inr ⟨b+5,0,rfl,fun i hi=>?_⟩⟩
 have hc:=cell_of_blk h.h5
 rcases i with _ | _ | i
 ·exact⟨_,rfl,(ExAt_iff _ _ _ _).2 ⟨none,0,by rw[hc];rfl,by rw[hc];rfl,by rw[hc];rfl,by rw[hc];rfl,leafIn _ _ _ _ (by decide)⟩⟩
 ·exact⟨_,rfl,(ExAt_iff _ _ _ _).2 ⟨none,0,by rw[hc];rfl,by rw[hc];rfl,by rw[hc];rfl,by rw[hc];rfl,leafIn _ _ _ _ (by decide)⟩⟩
 ·have:i+1+1 < 2:=hi
  omega
end Go.Proofs.YtcplmcjbkpmhdaaGreatDoor
namespace Go.Proofs.YtcplmcjbkpmhdaaGreatDoor
open Go.RowKit
theorem nodes_leaf (op n:Int) (s:ByteArray):(Ex.mk op n s []).nodes=[.mk op n s []]:=by rw[Ex.nodes_eq];simp[Ex.args_mk]
end Go.Proofs.YtcplmcjbkpmhdaaGreatDoor
