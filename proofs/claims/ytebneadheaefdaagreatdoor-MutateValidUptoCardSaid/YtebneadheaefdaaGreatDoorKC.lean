/- The operators of expressions: truth, single, double. -/
import Derived.Test.YtebneadheaefdaaGreatDoorKA
import Derived.Test.YtebneadheaefdaaGreatDoorKB
import Derived.StillTailTactics
import Derived.Deep.RegionHeld3
set_option linter.unusedSimpArgs false
set_option linter.unusedVariables false
set_option linter.unnecessarySimpa false
namespace Go.Proofs.YtebneadheaefdaaGreatDoor
open Go.RowKit
def xorW (a b:Int):Int:=((a.toNat ^^^ b.toNat:Nat):Int)
theorem i64_xor (a b:Int) (ha:0≤a) (ha':a < 65536) (hb:0≤b) (hb':b < 65536):bits .xor .i64 a b=xorW a b:=by
 obtain⟨A,rfl⟩:=Int.eq_ofNat_of_zero_le ha
 obtain⟨B,rfl⟩:=Int.eq_ofNat_of_zero_le hb
 have h1:bits .xor .i64 (A:Int) (B:Int)=IntKind.i64.wrap ((BitVec.ofInt 64 A ^^^ BitVec.ofInt 64 B).toNat:Int):=rfl
 have hl:A ^^^ B < 2 ^ 16:=Nat.xor_lt_two_pow (by omega) (by omega)
 rw[h1,BitVec.toNat_xor,ofInt_u64 _ (by omega),ofInt_u64 _ (by omega),IntKind.wrap_i64]
 unfold xorW
 simp only[Int.toNat_natCast]
 omega
end Go.Proofs.YtebneadheaefdaaGreatDoor
namespace Go.Proofs.YtebneadheaefdaaGreatDoor
open Go.RowKit
def SigsIn (w:World) (l:List (ByteArray × Int)) (a:Option Addr) (cap:Nat):Prop:=SliceIn 2 l.length a cap (fun i b o=>∃ s,l[i]? = some s∧w.cell? ⟨b,o,none⟩=some (.string s.1)∧w.cell? ⟨b,o+1,none⟩=some (.int .i64 s.2))
theorem SigsIn.keep {w w':World} (hk:∀ a v,w.cell? a=some v→w'.cell? a=some v) {l:List (ByteArray × Int)} {a:Option Addr} {cap:Nat} (h:SigsIn w l a cap):SigsIn w' l a cap :=
 h.mono fun _ _ _ _ ⟨s,hs,h1,h2⟩=>⟨s,hs,hk _ _ h1,hk _ _ h2⟩
theorem SigsIn.get {w:World} {l:List (ByteArray × Int)} {a:Option Addr} {cap:Nat} (h:SigsIn w l a cap) {b off:Nat} (ha:a=some ⟨b,off,none⟩) {i:Nat} (hi:i < l.length) :
  w.cell? ⟨b,off+i * 2,none⟩=some (.string (l[i]'hi).1)∧w.cell? ⟨b,off+i * 2+1,none⟩=some (.int .i64 (l[i]'hi).2):=by
 rcases h.2.2 with h | ⟨b',off',ha',hq⟩
 ·omega
 ·rw[ha] at ha'
  simp only[Option.some.injEq,Addr.mk.injEq,and_true] at ha'
  obtain⟨rfl,rfl⟩:=ha'
  obtain⟨e',he',hp⟩:=hq i hi
  rw[List.getElem?_eq_getElem hi] at he'
  obtain rfl:=Option.some.inj he'
  exact hp
def findS:List (ByteArray × Int)→ByteArray→Option Int
 | [],_=>none
 | x::l,s=>if (x.1.toList == s.toList)=true then some (wrapW x.2) else findS l s
end Go.Proofs.YtebneadheaefdaaGreatDoor
namespace Go.Proofs.YtebneadheaefdaaGreatDoor
open Go.RowKit
theorem names_mem (ops:List Int) (l:List Ex):∀ (st:List ByteArray) (s:ByteArray),s∈l.foldl (addName ops) st→s∈st∨∃ e∈l,e.name=s:=by
 induction l with
 | nil=>intro st s h;exact Or.inl h
 | cons e l ih =>
  intro st s h
  rcases ih _ _ h with h | ⟨e',he',rfl⟩
  ·unfold addName at h
   split at h
   ·rcases List.mem_append.1 h with h | h
    ·exact Or.inl h
    ·exact Or.inr ⟨e,List.mem_cons_self,(List.mem_singleton.1 h).symm⟩
   ·exact Or.inl h
  ·exact Or.inr ⟨e',List.mem_cons_of_mem _ he',rfl⟩
theorem node_name_size (w:World) (e:Ex):∀ (a:Option Addr) (cap:Nat),ExIn w e a cap→∀ x∈e.nodes,x.name.size≤1073741824:=by
 induction e using Ex.ind with
 | h e ih =>
  intro a cap hE x hx
  rw[Ex.nodes_eq] at hx
  rcases List.mem_cons.1 hx with rfl | hx
  ·exact hE.1
  ·obtain⟨l,hl,hxl⟩:=List.mem_flatten.1 hx
   obtain⟨e',he',rfl⟩:=List.mem_map.1 hl
   obtain⟨i,hi,rfl⟩:=List.mem_iff_getElem.1 he'
   obtain⟨b,off,ha⟩:=hE.2.addr.resolve_left (by omega)
   obtain⟨a',cap',_,_,_,_,hX⟩:=hE.2.get ha hi
   exact ih _ he' a' cap' hX x hxl
theorem names_size {w:World} {e:Ex} {a:Option Addr} {cap:Nat} (hE:ExIn w e a cap) (ops:List Int):∀ s∈namesS ops e,s.size≤1073741824:=by
 intro s hs
 rcases names_mem ops _ _ _ hs with h | ⟨x,hx,rfl⟩
 ·simp at h
 ·exact node_name_size w e a cap hE x hx
def IntsIn (w:World) (l:List Int) (a:Option Addr) (cap:Nat):Prop:=SliceIn 1 l.length a cap (fun i b o=>∃ n,l[i]? = some n∧w.cell? ⟨b,o,none⟩=some (.int .i64 n))
theorem IntsIn.keep {w w':World} (hk:∀ a v,w.cell? a=some v→w'.cell? a=some v) {l:List Int} {a:Option Addr} {cap:Nat} (h:IntsIn w l a cap):IntsIn w' l a cap :=
 h.mono fun _ _ _ _ ⟨s,hs,hp⟩=>⟨s,hs,hk _ _ hp⟩
theorem IntsIn.get {w:World} {l:List Int} {a:Option Addr} {cap:Nat} (h:IntsIn w l a cap) {b off:Nat} (ha:a=some ⟨b,off,none⟩) {i:Nat} (hi:i < l.length):w.cell? ⟨b,off+i,none⟩=some (.int .i64 (l.getD i 0)):=by
 rcases h.2.2 with h | ⟨b',off',ha',hq⟩
 ·omega
 ·rw[ha] at ha'
  simp only[Option.some.injEq,Addr.mk.injEq,and_true] at ha'
  obtain⟨rfl,rfl⟩:=ha'
  obtain⟨e',he',hp⟩:=hq i hi
  rw[List.getD_eq_getElem?_getD,he']
  rw[Nat.mul_one] at hp
  exact hp
theorem ints_of_own {w:World} {base:Nat} {e:TypeId} {v:Value} {l:List Int} (h:w.ownsRow base e 1 v l.length (l.map (Value.int .i64))) (hn:l.length≤1073741824):∃ a cap,v=.slice a l.length cap∧IntsIn w l a cap:=by
 obtain⟨a,cap,hv,hs⟩:=slice_of_own h hn
 refine⟨a,cap,hv,hs.mono fun i b o hi hq=>?_⟩
 have:=hq 0 (by omega)
 exact⟨l[i],List.getElem?_eq_getElem hi,by simpa [hi] using this⟩
end Go.Proofs.YtebneadheaefdaaGreatDoor
namespace Go.Proofs.YtebneadheaefdaaGreatDoor
open Go.RowKit
def OkE (e:Ex):Prop:=∀ x∈e.nodes,nodeS x=0
theorem firstE_zero (l:List Ex):firstE l=0→∀ x∈l,nodeS x=0:=by
 induction l with
 | nil=>intro _ x hx;cases hx
 | cons e l ih =>
  intro h x hx
  unfold firstE at h
  by_cases he:nodeS e=0
  ·rw[if_pos he] at h
   rcases List.mem_cons.1 hx with rfl | hx
   ·exact he
   ·exact ih h x hx
  ·rw[if_neg he] at h;exact absurd h he
theorem valid_ok {e:Ex} (h:validS e=0):OkE e:=by
 unfold validS at h
 split at h
 ·simp at h
 ·exact firstE_zero _ h
theorem OkE.self {e:Ex} (h:OkE e):nodeS e=0:=h e (by rw[Ex.nodes_eq];exact List.mem_cons_self)
theorem OkE.arg {e:Ex} (h:OkE e) {a:Ex} (ha:a∈e.args):OkE a:=fun x hx=>h x (by
 rw[Ex.nodes_eq]
 exact List.mem_cons_of_mem _ (List.mem_flatten.2 ⟨_,List.mem_map.2 ⟨a,ha,rfl⟩,hx⟩))
theorem node_ok {e:Ex} (h:nodeS e=0):1≤e.op∧e.op≤25∧(e.op=1→0≤e.n∧e.n≤65535)∧operandsB e.op e.args.length=true:=by
 unfold nodeS at h
 split at h
 ·simp at h
 ·rename_i h1
  split at h
  ·simp at h
  ·rename_i h2
   split at h
   ·simp at h
   ·rename_i h3
    refine⟨by omega,by omega,fun e1=>?_,?_⟩
    ·omega
    ·cases hb:operandsB e.op e.args.length
     ·exact absurd (Or.inr hb) h3
     ·rfl
theorem operands_ok {op:Int} {n:Nat} (h:operandsB op n=true) (h1:1≤op) (h2:op≤25):(op=3→n=1)∧(op=22→n=3)∧(op≠1→op≠2→op≠24→1≤n):=by
 unfold operandsB arityS at h
 split at h
 ·rename_i e
  have:=of_decide_eq_true h
  exact⟨by omega,by omega,by omega⟩
 ·have:=of_decide_eq_true h
  refine⟨fun e=>?_,fun e=>?_,fun a b c=>?_⟩<;>(split at this<;>first | omega | (split at this<;>first | omega | (split at this<;>first | omega | (split at this<;>first | omega | (split at this<;>omega)))))
theorem elemI:Elem Tryz.prog 40 3 1:=Elem.of Tryz.underlying40 (by kernel_rfl) (z:=.int .i64 0) (bytes:=8) rfl (by decide) (by decide)
end Go.Proofs.YtebneadheaefdaaGreatDoor
