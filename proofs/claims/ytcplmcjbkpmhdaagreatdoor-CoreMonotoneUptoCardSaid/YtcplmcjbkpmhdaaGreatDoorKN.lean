/- Env of both, and what its result is good for. -/
import Derived.Test.YtcplmcjbkpmhdaaGreatDoorKM
import Derived.Test.YtcplmcjbkpmhdaaGreatDoorKF
import Derived.Deep.RegionHeld3
import Derived.Deep.DrawnRows
set_option linter.unusedSimpArgs false
set_option linter.unusedVariables false
set_option linter.unnecessarySimpa false
namespace Go.Proofs.YtcplmcjbkpmhdaaGreatDoor
open Go.RowKit
attribute [local go_sem ↓] Go.wp_at_zero Go.wp_at_succ
theorem own_far {w w1 w':World} {B:Nat} {e:TypeId} {size:Nat} {v:Value} {n:Nat} {xs:List Value} {a:Addr} {u:Value} (hown:w.ownsRow B e size v n xs) (hg:w1.grownBy w' v.ownBlock) (hc:w1.cell? a=some u) (ha:a.block < B∨w.heap.size≤a.block):w'.cell? a=some u :=
 hg.cell hc (fun h=>by obtain⟨h1,h2⟩:=hown.lt a.block h.symm;omega)
theorem own_base {w:World} {B B':Nat} {e:TypeId} {size:Nat} {v:Value} {n:Nat} {xs:List Value} (h:w.ownsRow B e size v n xs) (hB:B'≤B):w.ownsRow B' e size v n xs:=by
 refine⟨h.1,?_⟩
 rcases h.2 with h2 | ⟨g,cap,cur,h1,h2,h3⟩
 ·exact Or.inl h2
 ·exact Or.inr ⟨g,cap,cur,h1,by omega,h3⟩
def sigCells (l:List (ByteArray × Int)):List Value:=l.flatMap fun s=>[.string s.1,.int .i64 s.2]
theorem sigCells_snoc (l:List (ByteArray × Int)) (s:ByteArray × Int):sigCells (l++[s])=sigCells l++[.string s.1,.int .i64 s.2]:=by simp[sigCells]
theorem sigCells_get (l:List (ByteArray × Int)):∀ i (h:i < l.length),(sigCells l)[i * 2]? = some (.string (l[i]'h).1)∧(sigCells l)[i * 2+1]? = some (.int .i64 (l[i]'h).2):=by
 induction l with
 | nil=>intro i h;simp at h
 | cons s l ih =>
  intro i h
  have hc:sigCells (s::l)=.string s.1::.int .i64 s.2::sigCells l:=rfl
  rw[hc]
  cases i with
  | zero=>exact⟨rfl,rfl⟩
  | succ i =>
   have:=ih i (by simpa using h)
   rw[show (i+1) * 2=i * 2+1+1 from by omega]
   exact this
theorem sigs_of_own {w:World} {base:Nat} {e:TypeId} {v:Value} {l:List (ByteArray × Int)} (h:w.ownsRow base e 2 v l.length (sigCells l)) (hn:l.length≤1073741824):∃ a cap,v=.slice a l.length cap∧SigsIn w l a cap:=by
 obtain⟨a,cap,hv,hs⟩:=slice_of_own h hn
 refine⟨a,cap,hv,hs.mono fun i b o hi hq=>?_⟩
 obtain⟨h1,h2⟩:=sigCells_get l i hi
 exact⟨l[i],List.getElem?_eq_getElem hi,(hq 0 (by omega)).trans h1,(hq 1 (by omega)).trans h2⟩
theorem elemG:Elem Tryz.prog 119 122 2:=Elem.of Tryz.underlying119 (by kernel_rfl) (z:=.agg #[.string .empty,.int .i64 0]) (bytes:=24) rfl (by decide) (by decide)
def envS (vs:List VarD) (a:List Int):List (ByteArray × Int):=if a.length=vs.length then (vs.zip a).map fun x=>(x.1.name,x.2) else []
def envTo (vs:List VarD) (a:List Int) (k:Nat):List (ByteArray × Int):=((vs.zip a).take k).map fun x=>(x.1.name,x.2)
theorem envTo_succ {vs:List VarD} {a:List Int} (h:a.length=vs.length) {k:Nat} (hk:k < vs.length):envTo vs a (k+1)=envTo vs a k++[((vs[k]'hk).name,a[k]'(by omega))]:=by
 unfold envTo
 rw[List.take_succ_eq_append_getElem (by simp;omega),List.map_append]
 simp
theorem envTo_len {vs:List VarD} {a:List Int} (h:a.length=vs.length) {k:Nat} (hk:k≤vs.length):(envTo vs a k).length=k:=by
 unfold envTo;simp;omega
theorem envTo_all {vs:List VarD} {a:List Int} (h:a.length=vs.length):envTo vs a vs.length=envS vs a:=by
 unfold envTo envS;rw[if_pos h,List.take_of_length_le (by simp;omega)]
theorem envS_len {vs:List VarD} {a:List Int} (h:a.length=vs.length):(envS vs a).length=vs.length:=by rw[← envTo_all h,envTo_len h (Nat.le_refl _)]
def EnvPost (w:World) (l:List (ByteArray × Int)) (e:Ending) (w':World):Prop:=∃ v,e=.returned v∧w'.ownsRow w.heap.size 122 2 v l.length (sigCells l)∧Below w.heap.size w w'
set_option maxRecDepth 100000 in
set_option maxHeartbeats 4000000 in
theorem r14Env_any (p:ProbD) (x:ProbA) (A:List Int) (aa:Option Addr) (ca:Nat) (w:World) (hE:ProbIn w p x) (hI:IntsIn w A aa ca) :
  Calls Tryz.prog 130 #[probVal p x,.slice aa A.length ca] w fun e w'=>EnvPost w (envS p.vars A) e w':=by
 have HE:=Lib.hid hE.vars
 have HAV:=Lib.hid hE.vars.addr
 have HI:=Lib.hid hI
 have HAI:=Lib.hid hI.addr
 have hlen:=hE.vars.2.1
 have hlenA:=hI.2.1
 rw[probVal_eq]
 obtain⟨vs,hard,soft,ds,gs⟩:=p
 obtain⟨av,cv,ah,ch,ao,co,ad,cd,ag,cg⟩:=x
 simp only at HE HAV hlen⊢
 clear hE hI
 by_cases hl:A.length=vs.length
 ·have Hl:=Lib.hid hl
  have HES:=Lib.hid (envTo_all hl)
  have hlb:((A.length:Int) != (vs.length:Int))=false:=by simp;omega
  clear hl
  go_enter Tryz.func130, Tryz.ntmps130
  go_wp2_with fail
  go_loopw [6,5] (fun i v wr=>∃ k:Nat,i=.int .i64 k∧k≤vs.length∧wr.ownsRow (w.heap.size+1) 122 2 v k (sigCells (envTo vs A k))∧Below (w.heap.size+1) (w.alloc (.cells #[.slice av vs.length cv,.slice ah hard.length ch,.slice ao soft.length co,.slice ad ds.length cd,.slice ag gs.length cg] 27)) wr) (fun i _ _=>vs.length - (intOf i).toNat)
  case atStart=>exact⟨0,rfl,Nat.zero_le _,World.ownsRow_nil _ _ _ _,Below.refl _ _⟩
  case round =>
   obtain⟨k,rfl,hk,hown,hB⟩:=hrel
   have b0:=box_cell hB 0
   (try simp at b0)
   have HB:=Lib.hid hB
   have HBw:=Lib.hid (boxW _ hB)
   have HO:=Lib.hid hown
   have hzr:=hB.size
   simp only[World.size_alloc] at hzr
   have hzl0:w.heap.size < wr.heap.size:=by omega
   obtain⟨va,vc,hv,_⟩:=slice_of_own hown (by omega)
   subst hv
   by_cases hlt:k < vs.length
   ·obtain⟨b,off,ha⟩:=HAV.out.resolve_left (by omega)
    subst ha
    obtain⟨bi,oi,hai⟩:=HAI.out.resolve_left (by have:=Hl.out;omega)
    subst hai
    obtain⟨c0,_,_,_,_⟩:=HE.out.get rfl hlt
    have i0:=intsIn_get HI.out rfl (show k < A.length by have:=Hl.out;omega)
    have hbl:=World.block_lt_of_cell? _ _ c0
    have hil:=World.block_lt_of_cell? _ _ i0
    simp only at hbl hil
    have c0:=(keeps_of_below HBw.out) _ _ c0
    have i0:=(keeps_of_below HBw.out) _ _ i0
    have HS:=Lib.hid (envTo_succ Hl.out hlt)
    generalize (vs[k]'hlt).name=nm at c0 HS
    generalize A[k]'(show k < A.length by have:=Hl.out;omega)=vv at i0 HS
    have hkk:k≤1073741824:=by omega
    have hkA:k < A.length:=by have:=Hl.out;omega
    have HBl:=Lib.hid hbl
    have HIl:=Lib.hid hil
    clear hown hB
    have hne0:=World.new_ne _ _ b0
    go_wp2_with fail
    go_region_held3 (fun w'=>w'.cell? ⟨w.heap.size,0,none⟩=some (.slice (some ⟨b,off,none⟩) vs.length cv)∧w'.cell? ⟨b,off+k * 4,none⟩=some (.string nm)∧w'.cell? ⟨bi,oi+k,none⟩=some (.int .i64 vv)) (first | go_keep | (refine⟨own_far HO.out hgrow (by go_keep) (Or.inl (by simp)),own_far HO.out hgrow (by go_keep) (Or.inl (by simp;omega)),own_far HO.out hgrow (by go_keep) (Or.inl (by simp;omega))⟩))
     ((refine own_step elemG (by rfl) _ _ (by rfl) (w.heap.size+1) (.slice va k vc) k (sigCells (envTo vs A k)) (by rfl) ((HO.out.alloc _).drew) [.string nm,.int .i64 vv] (by rfl) (by simp[Value.oneCell']) wr.heap.size 1 (by rfl) (heap_alloc_new' wr _) hkk (by simp;omega) (wr.heap.size+1) (by simp) ?_;intro g gcap wg hownG hgrow hatG hltG))
    go_wp2_with fail
    go_roundw
    case rel=>exact⟨k+1,by go_num,by omega,by rw[HS.out,sigCells_snoc];exact hownG,Below.grown (by first | exact bel | exact(HB.out.alloc (by omega) _).drew) hgrow (by simp;omega) (fun j hj=>(HO.out.lt j hj).1)⟩
    case measure=>simp[intOf];omega
   ·obtain rfl:k=vs.length:=by omega
    have hkA:¬ vs.length < A.length:=by have:=Hl.out;omega
    clear hown hB
    go_wp2_with fail
    go_ret
    refine⟨_,rfl,?_,HBw.out⟩
    have:=own_base HO.out (Nat.le_succ _)
    rw[HES.out] at this
    rw[envS_len Hl.out]
    exact this
 ·have hlb:((A.length:Int) != (vs.length:Int))=true:=by simp;omega
  have HN:Hid (envS vs A=[]):=if_neg hl
  clear hl
  go_enter Tryz.func130, Tryz.ntmps130
  go_wp2_with fail
  go_ret
  rw[HN.out]
  exact⟨_,rfl,World.ownsRow_nil _ _ _ _,bel⟩
set_option maxRecDepth 100000 in
set_option maxHeartbeats 4000000 in
theorem Env_any (p:ProbD) (x:ProbA) (A:List Int) (aa:Option Addr) (ca:Nat) (w:World) (hE:ProbIn w p x) (hI:IntsIn w A aa ca) :
  Calls Tryz.prog 91 #[probVal p x,.slice aa A.length ca] w fun e w'=>EnvPost w (envS p.vars A) e w':=by
 have HE:=Lib.hid hE.vars
 have HAV:=Lib.hid hE.vars.addr
 have HI:=Lib.hid hI
 have HAI:=Lib.hid hI.addr
 have hlen:=hE.vars.2.1
 have hlenA:=hI.2.1
 rw[probVal_eq]
 obtain⟨vs,hard,soft,ds,gs⟩:=p
 obtain⟨av,cv,ah,ch,ao,co,ad,cd,ag,cg⟩:=x
 simp only at HE HAV hlen⊢
 clear hE hI
 by_cases hl:A.length=vs.length
 ·have Hl:=Lib.hid hl
  have HES:=Lib.hid (envTo_all hl)
  have hlb:((A.length:Int) != (vs.length:Int))=false:=by simp;omega
  clear hl
  go_enter Tryz.func91, Tryz.ntmps91
  go_wp2_with fail
  go_loopw [17,5,6,7] (fun i v _ _ wr=>∃ k:Nat,i=.int .i64 k∧k≤vs.length∧wr.ownsRow (w.heap.size+1) 122 2 v k (sigCells (envTo vs A k))∧Below (w.heap.size+1) (w.alloc (.cells #[.slice av vs.length cv,.slice ah hard.length ch,.slice ao soft.length co,.slice ad ds.length cd,.slice ag gs.length cg] 27)) wr) (fun i _ _ _ _=>vs.length - (intOf i).toNat)
  case atStart=>exact⟨0,rfl,Nat.zero_le _,World.ownsRow_nil _ _ _ _,Below.refl _ _⟩
  case round =>
   obtain⟨k,rfl,hk,hown,hB⟩:=hrel
   have b0:=box_cell hB 0
   (try simp at b0)
   have HB:=Lib.hid hB
   have HBw:=Lib.hid (boxW _ hB)
   have HO:=Lib.hid hown
   have hzr:=hB.size
   simp only[World.size_alloc] at hzr
   have hzl0:w.heap.size < wr.heap.size:=by omega
   obtain⟨va,vc,hv,_⟩:=slice_of_own hown (by omega)
   subst hv
   by_cases hlt:k < vs.length
   ·obtain⟨b,off,ha⟩:=HAV.out.resolve_left (by omega)
    subst ha
    obtain⟨bi,oi,hai⟩:=HAI.out.resolve_left (by have:=Hl.out;omega)
    subst hai
    obtain⟨c0,_,_,_,_⟩:=HE.out.get rfl hlt
    have i0:=intsIn_get HI.out rfl (show k < A.length by have:=Hl.out;omega)
    have hbl:=World.block_lt_of_cell? _ _ c0
    have hil:=World.block_lt_of_cell? _ _ i0
    simp only at hbl hil
    have c0:=(keeps_of_below HBw.out) _ _ c0
    have i0:=(keeps_of_below HBw.out) _ _ i0
    have HS:=Lib.hid (envTo_succ Hl.out hlt)
    generalize A[k]'(show k < A.length by have:=Hl.out;omega)=vv at i0 HS
    have HNm:Hid ((vs[k]'hlt).name=(vs[k]'hlt).name):=rfl
    have hkk:k≤1073741824:=by omega
    have hkA:k < A.length:=by have:=Hl.out;omega
    obtain⟨_,d1,d2,d3,_⟩:=HE.out.get rfl hlt
    have d1:=(keeps_of_below HBw.out) _ _ d1
    have d2:=(keeps_of_below HBw.out) _ _ d2
    have d3:=(keeps_of_below HBw.out) _ _ d3
    have HBl:=Lib.hid hbl
    have HIl:=Lib.hid hil
    clear hown hB
    have i0A:∀ o,(wr.alloc o).cell? ⟨bi,oi+k,none⟩=some (.int .i64 vv):=fun o=>(World.cell?_alloc_lt _ _ _ (by have:=HBw.out.size;simp only;omega)).trans i0
    have hin:bi≠wr.heap.size:=by have:=HBw.out.size;omega
    go_wp2_with fail
    generalize (vs[k]'hlt).name=nm at *
    generalize hwb:wr.alloc (.cells #[.string nm,.int .i64 (vs[k]'hlt).width,.int .i64 (vs[k]'hlt).mode,.int .i64 (vs[k]'hlt).value] 70)=wb
    have v0:wb.cell? ⟨wr.heap.size,0,none⟩=some (.string nm):=by rw[← hwb];simp
    have v1:wb.cell? ⟨bi,oi+k,none⟩=some (.int .i64 vv):=by rw[← hwb];exact i0A _
    have hzb:wb.heap.size=wr.heap.size+1:=by rw[← hwb];simp
    have HOb:Hid (wb.ownsRow (w.heap.size+1) 122 2 (.slice va k vc) k (sigCells (envTo vs A k))):=by show World.ownsRow _ _ _ _ _ _ _;rw[← hwb];exact HO.out.alloc _
    have HBb:Hid (Below (w.heap.size+1) (w.alloc (.cells #[.slice (some ⟨b,off,none⟩) vs.length cv,.slice ah hard.length ch,.slice ao soft.length co,.slice ad ds.length cd,.slice ag gs.length cg] 27)) wb):=by show Below _ _ _;rw[← hwb];exact HB.out.alloc (by omega) _
    have hzb1:w.heap.size+1≤wb.heap.size:=by omega
    have hne0:=World.new_ne _ _ v0
    have HZ:=Lib.hid hzb
    clear hwb hzb i0A c0 d1 d2 d3 b0 i0
    go_region_held3 (fun w'=>w'.cell? ⟨wr.heap.size,0,none⟩=some (.string nm)∧w'.cell? ⟨bi,oi+k,none⟩=some (.int .i64 vv)) (first | go_keep | (refine⟨own_far HO.out hgrow (by go_keep) (Or.inr (by simp)),own_far HO.out hgrow (by go_keep) (Or.inl (by simp;omega))⟩))
     ((refine own_step elemG (by rfl) _ _ (by rfl) (w.heap.size+1) (.slice va k vc) k (sigCells (envTo vs A k)) (by rfl) ((HOb.out.alloc _).drew) [.string nm,.int .i64 vv] (by rfl) (by simp[Value.oneCell']) wb.heap.size 1 (by rfl) (heap_alloc_new' wb _) hkk (by simp;omega) (wb.heap.size+1) (by simp) ?_;intro g gcap wg hownG hgrow hatG hltG))
    go_wp2_with fail
    go_roundw
    case rel=>exact⟨k+1,by go_num,by omega,by rw[HS.out,sigCells_snoc];exact hownG,Below.grown (by first | exact bel | exact(HBb.out.alloc (by omega) _).drew) hgrow (by simp;omega) (fun j hj=>(HO.out.lt j hj).1)⟩
    case measure=>simp[intOf];omega
   ·obtain rfl:k=vs.length:=by omega
    clear hown hB
    go_wp2_with fail
    go_ret
    refine⟨_,rfl,?_,HBw.out⟩
    have:=own_base HO.out (Nat.le_succ _)
    rw[HES.out] at this
    rw[envS_len Hl.out]
    exact this
 ·have hlb:((A.length:Int) != (vs.length:Int))=true:=by simp;omega
  have HN:Hid (envS vs A=[]):=if_neg hl
  clear hl
  go_enter Tryz.func91, Tryz.ntmps91
  go_wp2_with fail
  go_ret
  rw[HN.out]
  exact⟨_,rfl,World.ownsRow_nil _ _ _ _,bel⟩
end Go.Proofs.YtcplmcjbkpmhdaaGreatDoor
namespace Go.Proofs.YtcplmcjbkpmhdaaGreatDoor
open Go.RowKit
end Go.Proofs.YtcplmcjbkpmhdaaGreatDoor
