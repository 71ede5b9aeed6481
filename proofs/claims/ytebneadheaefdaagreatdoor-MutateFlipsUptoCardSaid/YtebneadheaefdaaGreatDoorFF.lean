/- Lists of versions in memory. -/
import Derived.Test.YtebneadheaefdaaGreatDoorFE
import Derived.Test.YtebneadheaefdaaGreatDoorFC
import Derived.Test.YtebneadheaefdaaGreatDoorEC
set_option linter.unusedSimpArgs false
set_option linter.unusedVariables false
set_option linter.unnecessarySimpa false
namespace Go.Proofs.YtebneadheaefdaaGreatDoor
open Go.RowKit
theorem elemVer:Elem Tryz.prog 188 191 5:=Elem.of Tryz.underlying188 (by kernel_rfl) (z:=.agg #[.int .i64 0,.int .i64 0,.string .empty,.slice none 0 0,.string .empty]) (bytes:=72) rfl (by decide) (by decide)
abbrev VA:=Ex × Option Addr × Nat × ByteArray
def verCells (x:VA):List Value:=[.int .i64 x.1.op,.int .i64 x.1.n,.string x.1.name,.slice x.2.1 x.1.args.length x.2.2.1,.string x.2.2.2]
def verP (p:Nat→Bool) (H:World) (x:VA):Prop:=ExIn (World.hide H p) x.1 x.2.1 x.2.2.1
theorem verP_keep (p:Nat→Bool):∀ (H H':World) (x:VA),HK H H'→verP p H x→verP p H' x:=fun _ _ _ h hx=>hx.keep (hk_hide h).cell
def verOf (x:VA):Ver:=(x.1,x.2.2.2)
abbrev OwnV (w:World) (B:Nat) (p:Nat→Bool) (v:Value) (L:List VA):Prop:=OwnR w B 191 5 verCells (verP p) v L
def VersIn (H:World) (L:List VA) (a:Option Addr) (cap:Nat):Prop:=SliceIn 5 L.length a cap (fun i b o=>∃ x,L[i]? = some x∧(∀ j u,(verCells x)[j]? = some u→H.cell? ⟨b,o+j,none⟩=some u)∧ExIn H x.1 x.2.1 x.2.2.1)
theorem VersIn.keep {H H':World} {L:List VA} {a:Option Addr} {cap:Nat} (h:VersIn H L a cap) (hk:∀ a v,H.cell? a=some v→H'.cell? a=some v):VersIn H' L a cap :=
 h.mono fun _ _ _ _ ⟨x,h1,h2,h3⟩=>⟨x,h1,fun j u hu=>hk _ _ (h2 j u hu),h3.keep hk⟩
theorem VersIn.get {H:World} {L:List VA} {a:Option Addr} {cap:Nat} (h:VersIn H L a cap) {b off:Nat} (ha:a=some ⟨b,off,none⟩) {i:Nat} (hi:i < L.length) :
  H.cell? ⟨b,off+i * 5,none⟩=some (.int .i64 (L[i]'hi).1.op)∧H.cell? ⟨b,off+i * 5+1,none⟩=some (.int .i64 (L[i]'hi).1.n)∧H.cell? ⟨b,off+i * 5+2,none⟩=some (.string (L[i]'hi).1.name)∧H.cell? ⟨b,off+i * 5+3,none⟩=some (.slice (L[i]'hi).2.1 (L[i]'hi).1.args.length (L[i]'hi).2.2.1)∧H.cell? ⟨b,off+i * 5+4,none⟩=some (.string (L[i]'hi).2.2.2)∧ExIn H (L[i]'hi).1 (L[i]'hi).2.1 (L[i]'hi).2.2.1:=by
 rcases h.2.2 with h | ⟨b',off',ha',hq⟩
 ·omega
 ·rw[ha] at ha'
  simp only[Option.some.injEq,Addr.mk.injEq,and_true] at ha'
  obtain⟨rfl,rfl⟩:=ha'
  obtain⟨x,hx,h1,h2⟩:=hq i hi
  rw[List.getElem?_eq_getElem hi] at hx
  obtain rfl:=Option.some.inj hx
  exact⟨h1 0 _ rfl,h1 1 _ rfl,h1 2 _ rfl,h1 3 _ rfl,h1 4 _ rfl,h2⟩
theorem OwnR.vers {w:World} {B:Nat} {p:Nat→Bool} {v:Value} {L:List VA} (h:OwnV w B p v L) (hn:L.length≤1073741824) (hp:∀ k,v.ownBlock=some k→p k=false):∃ a cap,v=.slice a L.length cap∧VersIn (World.hide w p) L a cap∧(L.length=0∨∃ b,a=some ⟨b,0,none⟩):=by
 obtain⟨a,cap,rfl,hc,hb,hs⟩:=h.slice hn
 refine⟨a,cap,rfl,⟨hc,hn,hs.imp id ?_⟩,hs.imp id fun ⟨b,h1,_⟩=>⟨b,h1⟩⟩
 rintro ⟨b,rfl,hB,hv⟩
 refine⟨b,0,rfl,fun i hi=>?_⟩
 rw[Nat.zero_add]
 have hm:=h.mem _ (List.getElem_mem hi)
 unfold verP at hm
 refine⟨L[i]'hi,List.getElem?_eq_getElem hi,fun j u hu=>?_,hm.keep (hk_hide (hk_unhide _ _)).cell⟩
 have hj:j < 5:=(List.getElem?_eq_some_iff.1 hu).1
 exact cell_hide.2 ⟨hp b hv,(h.cellsAt (fun _=>rfl) rfl hi hj).trans hu⟩
def besP (p:Nat→Bool) (v:Value):Nat→Bool:=fun k=>p k || ownP v k
theorem besP_true {p:Nat→Bool} {v:Value} {k:Nat}:besP p v k=true↔p k=true∨v.ownBlock=some k:=by unfold besP;rw[Bool.or_eq_true,ownP_true]
theorem app_hk {W w':World} {v:Value} {g n cap:Nat} (hg:W.grownBy w' v.ownBlock) (hn:v.ownBlock=some g∨W.heap.size≤g) (p:Nat→Bool):HK (World.hide W (besP p v)) (World.hide w' (besP p (.slice (some ⟨g,0,none⟩) n cap))) :=
 hk_grown hg (fun k hk=>besP_true.2 (Or.inr hk)) fun k hk hq=>by
  rcases besP_true.1 hq with q | q
  ·exact besP_true.2 (Or.inl q)
  ·have e:=Option.some.inj q
   simp only at e
   subst e
   rcases hn with h | h
   ·exact besP_true.2 (Or.inr h)
   ·omega
theorem RowOf.other1 {W:World} {b b' o:Nat} {u:Value} {t:TypeId} {size n cap:Nat} {P:Nat→(Nat→Option Value)→Prop} (h:RowOf W b' t size n cap P) (hne:b'≠b):RowOf (W.setCell ⟨b,o,none⟩ u) b' t size n cap P:=by
 obtain⟨h1,h2,arr,h3,h4,h5⟩:=h
 exact⟨h1,h2,arr,by rw[Below.heap_setCell _ _ _ _ hne];exact h3,h4,h5⟩
theorem ver_row {w6 wi:World} {p:Nat→Bool} {v:Value} {args:List Ex} {b' c' xb k:Nat} {u:Value} (hw:wi.heap.size≤xb) (hb:wi.heap.size≤b') (hx:xb≠b') (hp:∀ k,p k=true→k < wi.heap.size) (hv:∀ k,v.ownBlock=some k→k < wi.heap.size)
  (hr:RowOf w6 b' 72 4 args.length c' (exP w6 (fun j=>besP p v j || decide (wi.heap.size≤j)) args)) (hk:k < args.length) (hl:args.length≤1073741824) {y:Ex} {a:Option Addr} {c:Nat} (hy:ExIn (World.hide wi (besP p v)) y a c) (h6:Below wi.heap.size wi w6) :
  ExsIn (World.hide (((((w6.setCell ⟨xb,3,none⟩ u).setCell ⟨b',k * 4+0,none⟩ (.int .i64 y.op)).setCell ⟨b',k * 4+1,none⟩ (.int .i64 y.n)).setCell ⟨b',k * 4+2,none⟩ (.string y.name)).setCell ⟨b',k * 4+3,none⟩ (.slice a y.args.length c)) (besP p v)) (args.set k y) (some ⟨b',0,none⟩) c':=by
 have qb:(fun j=>besP p v j || decide (wi.heap.size≤j)) b'=true:=by simp[hb]
 have qx:(fun j=>besP p v j || decide (wi.heap.size≤j)) xb=true:=by simp[hw]
 have hr1:RowOf (w6.setCell ⟨xb,3,none⟩ u) b' 72 4 args.length c' (exP (w6.setCell ⟨xb,3,none⟩ u) (fun j=>besP p v j || decide (wi.heap.size≤j)) args) :=
  (hr.other1 (Ne.symm hx)).mono fun i f _ ⟨v,ae,ce,g0,g1,g2,g3,g4,g5⟩=>⟨v,ae,ce,g0,g1,g2,g3,g4,g5.keep (hk_store qx).cell⟩
 have hy1:ExIn (World.hide (w6.setCell ⟨xb,3,none⟩ u) (fun j=>besP p v j || decide (wi.heap.size≤j))) y a c :=
  hy.keep ((hk_below h6 fun j hj h=>by
   rw[Bool.or_eq_true] at h
   rcases h with h | h
   ·exact h
   ·have:=of_decide_eq_true h;omega).trans (hk_store qx)).cell
 have h3:=rowSetE qb hr1 hk hy1
 have pb:besP p v b'=false:=by
  cases h:besP p v b' with
  | false=>rfl
  | true =>
   rcases besP_true.1 h with h | h
   ·have:=hp _ h;omega
   ·have:=hv _ h;omega
 have:=rowE_in (p:=besP p v) (l:=args.set k y) (by rw[List.length_set];exact h3) pb (by rw[List.length_set];exact hl) (hk_mono fun j hj=>by simp[hj]).cell
 exact this
end Go.Proofs.YtebneadheaefdaaGreatDoor
namespace Go.Proofs.YtebneadheaefdaaGreatDoor
open Go.RowKit
attribute [local go_sem ↓] Go.wp_at_zero Go.wp_at_succ
def VerPost (p:Nat→Bool) (w:World) (e:Ex) (first:Nat) (r:Ending) (w':World):Prop:=(∃ v L,r=.returned v∧OwnV w' w.heap.size p v L∧L.map verOf=versS e first)∧Below w.heap.size w w'
theorem exval_mk (op n:Int) (s:ByteArray) (args:List Ex) (a:Option Addr) (c:Nat):exVal (.mk op n s args) a c=.agg #[.int .i64 op,.int .i64 n,.string s,.slice a args.length c]:=rfl
theorem OwnR.one {α:Type} {X w:World} {B:Nat} {t:TypeId} {size:Nat} {cells:α→List Value} {P:World→α→Prop} (hP:∀ H H' x,HK H H'→P H x→P H' x) {g cap:Nat} {x:α} (hx:P X x) (hg:X.grownBy w none) (hn:X.heap.size≤g)
  (ho:w.ownsRow B t size (.slice (some ⟨g,0,none⟩) 1 cap) 1 (cells x)):OwnR w B t size cells P (.slice (some ⟨g,0,none⟩) 1 cap) [x]:=by
 have h:=(OwnR.nil X B t size cells P).add hP (g:=g) (cap:=cap) (x:=x) (hP _ _ _ (fun b o h _=>by
  rw[hide_heap,h]
  have:ownP (.slice none 0 0) b=false:=rfl
  rw[this]
  rfl) hx) hg (Or.inr hn) (by simpa using ho)
 simpa using h
def VSt (W1:World) (p:Nat→Bool) (l:List Ver) (s:Value) (W:World):Prop:=∃ L,OwnV W W1.heap.size p s L∧L.map verOf=l∧Below W1.heap.size W1 W
theorem vst_one {W1 w2 X wg:World} {p:Nat→Bool} {e:Ex} {a:Option Addr} {c:Nat} {what:ByteArray} {g cap:Nat} (hx:ExIn (World.hide w2 p) e a c) (h12:Below W1.heap.size W1 w2) (h2X:Below w2.heap.size w2 X) (hg:X.grownBy wg none) (hn:X.heap.size≤g)
  (ho:wg.ownsRow W1.heap.size 191 5 (.slice (some ⟨g,0,none⟩) 1 cap) 1 (verCells (e,a,c,what))):VSt W1 p [(e,what)] (.slice (some ⟨g,0,none⟩) 1 cap) wg :=
 ⟨[(e,a,c,what)],OwnR.one (verP_keep p) (show ExIn (World.hide X p) e a c from hx.keep (hk_below h2X fun _ _ h=>h).cell) hg hn ho,rfl,
  (h12.trans (h2X.mono h12.size)).grown hg (Nat.le_trans h12.size h2X.size) (fun q hq=>by simp at hq)⟩
set_option maxHeartbeats 16000000 in
set_option maxRecDepth 100000 in
theorem versions_any {B0:Nat} {w0:World} (hF:∀ n:Int,0≤n→n≤65535→FmtC B0 w0 n) (e:Ex):∀ (p:Nat→Bool) (first:Nat) (ea:Option Addr) (ec:Nat) (w:World),(∀ k,p k=true→k < w.heap.size)→B0≤w.heap.size→Below B0 w0 w→ExIn (World.hide w p) e ea ec→OkE e→first+e.nodes.length≤65536 →
  Calls Tryz.prog 168 #[exVal e ea ec,.int .i64 first] w (VerPost p w e first):=by
 induction e using Ex.ind with
 | h e ih =>
  intro p first ea ec w hp hB0 hb0 hX hok hfn
  obtain⟨op,n,s,args⟩:=e
  have HX:=Lib.hid hX
  have hE:=hX.2
  have HIH:Hid (∀ k (hk:k < args.length),∀ (p:Nat→Bool) (first:Nat) (ea:Option Addr) (ec:Nat) (w:World),(∀ k,p k=true→k < w.heap.size)→B0≤w.heap.size→Below B0 w0 w→ExIn (World.hide w p) (args[k]'hk) ea ec→first+(args[k]'hk).nodes.length≤65536→Calls Tryz.prog 168 #[exVal (args[k]'hk) ea ec,.int .i64 first] w fun r w'=>(∃ v L,r=.returned v∧OwnV w' w.heap.size p v L∧L.map verOf=versS (args[k]'hk) first)∧Below w.heap.size w w') :=
   fun k hk p f a c W h1 h2 h3 h4 h5=>ih _ (List.getElem_mem hk) p f a c W h1 h2 h3 h4 (hok.arg (List.getElem_mem hk)) h5
  have HCh:=Lib.hid (fun W a c h1 h2=>changed_any p (.mk op n s args) W h1 hok a c h2)
  have HHp:=Lib.hid hp
  have HF:=Lib.hid hF
  have Hb0:=Lib.hid hb0
  have HSK:Hid (∀ k,sizeK args k < (Ex.mk op n s args).nodes.length):=fun k=>sizeK_le (.mk op n s args) k
  have HSS:Hid (∀ k (hk:k < args.length),sizeK args (k+1)=sizeK args k+(args[k]'hk).nodes.length):=fun k hk=>sizeK_succ args hk
  have HV0:Hid (verK (.mk op n s args) first 0=ownV (.mk op n s args) first):=rfl
  have HVS:Hid (∀ k (hk:k < args.length),verK (.mk op n s args) first (k+1)=verK (.mk op n s args) first k++(versS (args[k]'hk) (first+1+sizeK args k)).map fun v=>(.mk op n s (args.set k v.1),v.2)):=fun k hk=>verK_succ (.mk op n s args) first hk
  have HVA:Hid (verK (.mk op n s args) first args.length=versS (.mk op n s args) first):=verK_all (.mk op n s args) first
  have hlen:=hE.2.1
  have HSz0:Hid (s.size≤1073741824):=hX.1
  have HEl:Hid (args.length=0∨∃ b off,ea=some ⟨b,off,none⟩):=hE.addr
  have HE:=Lib.hid hE
  have HP:Hid (∀ v L W,OwnV W w.heap.size p v L→L.map verOf=versS (.mk op n s args) first→Below w.heap.size w W→VerPost p w (.mk op n s args) first (.returned v) W):=fun v L W h1 h2 h3=>⟨⟨v,L,rfl,h1,h2⟩,h3⟩
  have HSz:Hid (∀ k (hk:k < args.length) a c W,ExIn W (args[k]'hk) a c→Calls Tryz.prog 187 #[exVal (args[k]'hk) a c] W fun e w'=>e=.returned (.int .i64 ((args[k]'hk).nodes.length:Nat))∧Below W.heap.size W w'):=fun k hk a c W h=>by
   have h1:=HSS.out k hk
   have h2:=HSK.out (k+1)
   generalize args[k]'hk=y at h h1
   obtain⟨o,m,t,l⟩:=y
   exact size_any o m t l a c W h (by omega)
  have HO0:Hid (kindS op=.empty→ownV (.mk op n s args) first=[]):=fun h=>if_pos h
  have HO1:Hid (kindS op≠.empty→ownV (.mk op n s args) first=[(chgS (.mk op n s args),(fmtS first++⟨#[32]⟩)++kindS op)]):=fun h=>if_neg h
  have HKl:Hid (∀ k,k≤args.length→(verK (.mk op n s args) first k).length≤65536):=fun k hk=>by
   have h1:=congrArg List.length (verK_rest (.mk op n s args) first k hk)
   have h2:=vers_len (.mk op n s args) first
   rw[List.length_append] at h1
   omega
  have hkd:(kindS op).size≤9:=by
   unfold kindS
   split
   ·decide
   ·split
    ·decide
    ·split<;>decide
  have hfs:(fmtS first).size≤65536:=by have:=fmt_len first;have:=HSK.out 0;omega
  clear hE ih hX hok hp hb0
  unfold ChgPost at HCh
  simp only[Ex.op_mk] at HCh
  generalize kindS op=kd at HCh HO0 HO1 hkd
  generalize chgS (.mk op n s args)=e2 at HCh HO1
  generalize ownV (.mk op n s args) first=l0 at HO0 HO1 HV0
  generalize versS (.mk op n s args) first=VS at HVA HP
  generalize VerPost p w (.mk op n s args) first=Po at HP⊢
  generalize verK (.mk op n s args) first=VK at HV0 HVS HVA HKl
  generalize (Ex.mk op n s args).nodes.length=nl at HSK hfn
  simp only[Ex.args_mk] at HE hlen
  obtain⟨op2,n2,s2,args2⟩:=e2
  rw[exval_mk]
  simp only[exval_mk] at HCh
  have hf1:first≤65535:=by have:=HSK.out 0;omega
  go_enter Tryz.func168, Tryz.ntmps168
  go_wp2_with fail
  generalize hW1:w.alloc (.cells #[.int .i64 op,.int .i64 n,.string s,.slice ea args.length ec] 72)=W1
  have hz1:w.heap.size+1≤W1.heap.size:=by rw[← hW1];simp
  have hz1b:W1.heap.size≤w.heap.size+1:=by rw[← hW1];simp
  have HB1:Hid (Below w.heap.size w W1):=by show Below _ _ _;rw[← hW1];exact belr
  have HX1:Hid (W1.heap[w.heap.size]? = some (.cells #[.int .i64 op,.int .i64 n,.string s,.slice ea args.length ec] 72 (0,0))):=by
   show _=_;rw[← hW1]
   exact hx_new rfl
  clear hW1
  have HC:=Lib.hid (HCh.out W1 ea ec (fun k hk=>by have:=HHp.out k hk;omega) (HX.out.keep (hk_below HB1.out fun _ _ h=>h).cell))
  refine HC.out.mono ?_
  rintro r w2 ⟨⟨a2,c2,rfl,hx2⟩,hb2⟩
  have HX2:=Lib.hid hx2
  have Hb2:=Lib.hid hb2
  have hz2:=hb2.size
  clear hx2 hb2 HC HCh
  go_upto_if 20 with fail
  generalize hW3:w2.alloc (.cells #[.int .i64 op2,.int .i64 n2,.string s2,.slice a2 args2.length c2] 72)=W3
  have hz3:w2.heap.size+1≤W3.heap.size:=by rw[← hW3];simp
  have HB3:Hid (Below w2.heap.size w2 W3):=by show Below _ _ _;rw[← hW3];exact belr
  have HK3:Hid (W3.heap[w2.heap.size]? = some (.cells #[.int .i64 op2,.int .i64 n2,.string s2,.slice a2 args2.length c2] 72 (0,0))):=by
   show _=_;rw[← hW3]
   exact hx_new rfl
  clear hW3
  go_cut [5] from 6 (fun s5 wx=>VSt W1 p l0 s5 wx)
  case first =>
   by_cases hk0:kd=.empty
   ·have HV:Hid (VSt W1 p l0 (.slice none 0 0) W3):=⟨[],OwnR.nil _ _ _ _ _ _,(HO0.out hk0).symm,Hb2.out.trans (HB3.out.mono hz2)⟩
    have hkb:(!kd.toList.isEmpty)=false:=by rw[hk0,ByteArray.toList_eq];rfl
    have hkc:kd.toList.isEmpty=true:=by rw[hk0,ByteArray.toList_eq];rfl
    rw[hkb]
    clear hk0 hkb hkc
    go_wp2_with fail
    go_meet
    case rel=>exact HV.out
   ·have HL:Hid (l0=[(.mk op2 n2 s2 args2,(fmtS first++⟨#[32]⟩)++kd)]):=HO1.out hk0
    have hkl:¬ kd.toList=[]:=fun h=>hk0 (by
     rw[ByteArray.toList_eq] at h
     exact ByteArray.ext (Array.toList_inj.1 (by simpa using h)))
    have hkc:kd.toList.isEmpty=false:=by
     cases h:kd.toList.isEmpty with
     | false=>rfl
     | true=>exact absurd (List.isEmpty_iff.1 h) hkl
    have hkb:(!kd.toList.isEmpty)=true:=by rw[hkc];rfl
    rw[hkb]
    clear hkl hkb hkc
    have HFm:Hid (∀ W,Below W3.heap.size W3 W→Calls Tryz.prog 86 #[.int .i64 first] W fun e w'=>e=.returned (.string (fmtS first))∧Below W.heap.size W w'∧Below W3.heap.size W3 w'):=fun W hW=>lift_to hW (HF.out first (by omega) (by omega) W (Hb0.out.trans ((HB1.out.trans ((Hb2.out.trans ((HB3.out.trans (hW.mono (by omega))).mono hz2)).mono (by omega))).mono hB0)))
    have HALL:Hid (∀ w',Below W3.heap.size W3 w'→w'.cell? ⟨w2.heap.size,0,none⟩=some (.int .i64 op2)∧w'.cell? ⟨w2.heap.size,1,none⟩=some (.int .i64 n2)∧w'.cell? ⟨w2.heap.size,2,none⟩=some (.string s2)∧w'.cell? ⟨w2.heap.size,3,none⟩=some (.slice a2 args2.length c2)):=fun w' h=>by
     obtain⟨b0,b1,b2,b3,_⟩:=cell4 (hx_below h HK3.out)
     exact⟨b0,b1,b2,b3⟩
    generalize fmtS first=fs at HL HFm hfs
    have hB3:Below W3.heap.size W3 W3:=Below.refl _ _
    have hn1:¬ 9223372036854775807 < fs.size+1:=by omega
    have hn2:¬ 9223372036854775807 < fs.size+1+kd.size:=by omega
    obtain⟨b0,b1,b2,b3⟩:=HALL.out _ hB3
    clear hk0
    go_wp2_with fail
    go_region_held3 (fun w'=>Below W3.heap.size W3 w'∧w'.cell? ⟨w2.heap.size,0,none⟩=some (.int .i64 op2)∧w'.cell? ⟨w2.heap.size,1,none⟩=some (.int .i64 n2)∧w'.cell? ⟨w2.heap.size,2,none⟩=some (.string s2)∧w'.cell? ⟨w2.heap.size,3,none⟩=some (.slice a2 args2.length c2))
     ((refine(fun h=>⟨h,HALL.out _ h⟩) ?_;first | exact Below.grown (by first | with_reducible assumption | exact belr) hgrow sz (fun j hj=>absurd (show (none:Option Nat)=some j from hj) (by simp)) | with_reducible assumption | exact belr))
     (first
      | (go_at_call 86;(with_reducible refine(HFm.out _ (by first | with_reducible assumption | exact belr)).mono ?_);rintro r w4 ⟨rfl,hb4,hB4⟩;have hs4:=hB4.size)
      | (refine own_step elemVer (by rfl) _ _ (by rfl) W1.heap.size (.slice none 0 0) 0 [] (by rfl) (World.ownsRow_nil _ _ _ _) [.int .i64 op2,.int .i64 n2,.string s2,.slice a2 args2.length c2,.string ((fs++⟨#[32]⟩)++kd)] (by rfl) (by simp[Value.oneCell']) _ 1 (by rfl) (heap_alloc_new' _ _) (by omega) sz _ rfl ?_;intro g gcap wg hownG hgrow hatG hltG))
    go_wp2_with fail
    go_meet
    case rel =>
     rw[HL.out]
     exact vst_one (X:=w4.alloc _) HX2.out Hb2.out (HB3.out.trans ((hB4.alloc hs4 _).mono (by omega))) hgrow (hatG.resolve_left (by simp[Value.ownBlock]) ▸ Nat.le_refl _) hownG
  case rest =>
   obtain⟨L,hO,hL,hB⟩:=hcut
   have HO:=Lib.hid hO
   have HB:=Lib.hid hB
   have HL:Hid (L.map verOf=VK 0):=hL.trans HV0.out.symm
   clear hO hB hL HO0 HO1 HX2 Hb2 HK3 HB3 HX
   have HHE:=Lib.hid HE
   have hxb:=hx_below HB.out HX1.out
   obtain⟨b0,b1,b2,b3,_⟩:=cell4 hxb
   clear hxb
   have hfi:(first:Int)≤65535:=by omega
   go_wp2_with fail
   clear b0 b1 b2 b3
   go_loopw [36,5,8] (fun i v at' wr=>∃ (k:Nat) (L:List VA),i=.int .i64 k∧k≤args.length∧at'=.int .i64 ((first+1+sizeK args k:Nat):Int)∧Hid (L.map verOf=VK k)∧Hid (OwnV wr W1.heap.size p v L)∧Hid (Below W1.heap.size W1 wr)) (fun i _ _ _=>args.length - (intOf i).toNat)
   case atStart=>exact⟨0,L,rfl,Nat.zero_le _,by rw[sizeK_zero];congr 1,HL,HO,HB⟩
   case round =>
    obtain⟨k,L,rfl,hk,rfl,HL,HO,HB⟩:=hrel
    have hzr:=HB.out.size
    have HBw:Hid (Below w.heap.size w wr):=HB1.out.trans (HB.out.mono (by omega))
    by_cases hlt:k < args.length
    ·obtain⟨bE,oE,hEa⟩:=HEl.out.resolve_left (by show ¬ args.length=0;omega)
     have hLl:L.length≤65536:=by have:=congrArg List.length HL.out;have:=HKl.out k hk;simp at *;omega
     obtain⟨va,vc,rfl,hvc,hvo,_⟩:=HO.out.slice (by omega)
     have HVo:=Lib.hid hvo
     have hEk:=HHE.out.keep (hk_below (q:=besP p (.slice va L.length vc)) HBw.out fun j hj h=>by
      rcases besP_true.1 h with h | h
      ·exact h
      ·have:=(HVo.out j h).1;omega).cell
     subst hEa
     obtain⟨xa,xc,g0,g1,g2,g3,hX⟩:=hEk.get rfl hlt
     have c0:=hide_cell _ _ g0
     have c1:=hide_cell _ _ g1
     have c2:=hide_cell _ _ g2
     have c3:=hide_cell _ _ g3
     have hS1:=HSS.out k hlt
     have hS2:=HSK.out (k+1)
     have hS0:=HSK.out k
     have hyl:(args[k]'hlt).nodes.length≤65536:=by omega
     have HC:=Lib.hid (fun W (hW:Below wr.heap.size wr W)=>HIH.out k hlt (besP p (.slice va L.length vc)) (first+1+sizeK args k) xa xc W (fun j hj=>by
      rcases besP_true.1 hj with h | h
      ·have:=HHp.out j h;have:=hW.size;omega
      ·have:=(HVo.out j h).2;have:=hW.size;omega) (by have:=hW.size;omega) (Hb0.out.trans ((HBw.out.trans (hW.mono (by omega))).mono hB0)) (hX.keep (hk_below hW fun _ _ h=>h).cell) (by omega))
     have HSy:=Lib.hid (fun W (h:ExIn W (args[k]'hlt) xa xc)=>HSz.out k hlt xa xc W h)
     have HVSk:=Lib.hid (HVS.out k hlt)
     have HSk:Hid (sizeK args (k+1)=sizeK args k+(args[k]'hlt).nodes.length):=hS1
     have HXa:=Lib.hid hX
     have hsk:sizeK args k+(args[k]'hlt).nodes.length≤nl:=by omega
     clear hX g0 g1 g2 g3 hEk hvo hS1 hS2
     generalize (args[k]'hlt)=y at HC HSy HVSk HSk HXa c0 c1 c2 c3 hyl hsk
     simp only[exVal] at HC HSy
     have hski:(first:Int)+1+sizeK args k≤65536:=by omega
     go_wp2_with fail
     refine(HC.out _ belr).mono ?_
     rintro r w9 ⟨⟨v9,L9,rfl,hO9,hm9⟩,hb9⟩
     have hz9:=hb9.size
     simp only[World.size_alloc] at hz9
     have h9l:L9.length≤65536:=by have h1:=congrArg List.length hm9;have h2:=vers_len y (first+1+sizeK args k);simp at h1;omega
     have hbr9:Below wr.heap.size wr w9:=((Below.refl wr.heap.size wr).alloc (Nat.le_refl _) _).trans (hb9.mono (by simp))
     obtain⟨a9,c9,rfl,hV9,hs9⟩:=hO9.vers (by omega) (fun j hj=>by
      have h1:=(hO9.own.lt j hj).1
      simp only[World.size_alloc] at h1
      cases h:besP p (.slice va L.length vc) j with
      | false=>rfl
      | true =>
       rcases besP_true.1 h with h | h
       ·have:=HHp.out j h;omega
       ·have:=(HVo.out j h).2;omega)
     have HS9:=Lib.hid hs9
     have Hm9:=Lib.hid hm9
     have HO9:Hid (OwnV w9 W1.heap.size p (.slice va L.length vc) L):=HO.out.below (verP_keep p) hbr9
     have HK9:Hid ((World.hide w9 (besP p (.slice va L.length vc))).heap[wr.heap.size]? = some (.cells #[.int .i64 y.op,.int .i64 y.n,.string y.name,.slice xa y.args.length xc] 72 (0,0))):=by
      show _=_
      have hb:besP p (.slice va L.length vc) wr.heap.size=false:=by
       cases h:besP p (.slice va L.length vc) wr.heap.size with
       | false=>rfl
       | true =>
        rcases besP_true.1 h with h | h
        ·have:=HHp.out _ h;omega
        ·have:=(HVo.out _ h).2;omega
      rw[hide_heap,hx_below hb9 (hx_new rfl),hb]
      rfl
     have HV9:=Lib.hid hV9
     have HXa9:=Lib.hid (HXa.out.keep (hk_below hbr9 fun _ _ h=>h).cell)
     have HB9:Hid (Below W1.heap.size W1 w9):=HB.out.trans (hbr9.mono hzr)
     have HT0:Hid (L.map verOf=VK k++(L9.take 0).map fun x=>(Ex.mk op n s (args.set k x.1),x.2.2.2)):=by show _=_;rw[HL.out];simp
     clear hO9 hm9 hb9 hV9 hs9 hbr9 c0 c1 c2 c3 HC
     obtain⟨wo,rfl⟩:∃ wo:World,wo=wr:=⟨_,rfl⟩
     go_wp2_with fail
     go_loopw [45,5] (fun j v wr=>∃ (m:Nat) (L2:List VA),j=.int .i64 m∧m≤L9.length∧Hid (L2.map verOf=VK k++(L9.take m).map fun x=>(Ex.mk op n s (args.set k x.1),x.2.2.2))∧Hid (OwnV wr W1.heap.size p v L2)∧Hid (VersIn (World.hide wr (besP p v)) L9 a9 c9)∧Hid ((World.hide wr (besP p v)).heap[wo.heap.size]? = some (.cells #[.int .i64 y.op,.int .i64 y.n,.string y.name,.slice xa y.args.length xc] 72 (0,0)))∧Hid (ExIn (World.hide wr (besP p v)) y xa xc)∧Hid (Below W1.heap.size W1 wr)) (fun j _ _=>L9.length - (intOf j).toNat)
     case atStart=>exact⟨0,L,rfl,Nat.zero_le _,HT0,HO9,HV9,HK9,HXa9,HB9⟩
     case round =>
      obtain⟨m,L2,rfl,hm,HT,HO,HV,HK,HXy,HB⟩:=hrel
      have hzi:=HB.out.size
      have HBv:Hid (Below w.heap.size w wr):=HB1.out.trans (HB.out.mono (by omega))
      have hLl2:L2.length≤65536+65536:=by have h1:=congrArg List.length HT.out;have h2:=HKl.out k hk;simp at h1;omega
      obtain⟨vb,vd,rfl,hvc,hvo,_⟩:=HO.out.slice (by omega)
      have HVi:=Lib.hid hvo
      clear hvo
      by_cases hlm:m < L9.length
      ·obtain⟨b9,rfl⟩:=HS9.out.resolve_left (by omega)
       obtain⟨q0,q1,q2,q3,q4,hXv⟩:=HV.out.get rfl hlm
       have d0:=hide_cell _ _ q0
       have d1:=hide_cell _ _ q1
       have d2:=hide_cell _ _ q2
       have d3:=hide_cell _ _ q3
       have d4:=hide_cell _ _ q4
       have HTk:Hid ((L9.take (m+1)).map (fun x=>(Ex.mk op n s (args.set k x.1),x.2.2.2))=(L9.take m).map (fun x=>(Ex.mk op n s (args.set k x.1),x.2.2.2))++[(Ex.mk op n s (args.set k (L9[m]'hlm).1),(L9[m]'hlm).2.2.2)]):=by
        show _=_
        rw[List.take_add_one,List.getElem?_eq_getElem hlm,List.map_append]
        rfl
       generalize (L9[m]'hlm)=z at d0 d1 d2 d3 d4 hXv HTk
       obtain⟨ze,za,zc,zw⟩:=z
       have HXv:=Lib.hid hXv
       simp only[Nat.zero_add] at d0 d1 d2 d3 d4
       have hxb:=hx_below HB.out HX1.out
       obtain⟨b0,b1,b2,b3,_⟩:=cell4 hxb
       have k0:=fun o=>keeps_of_below ((Below.refl wr.heap.size wr).alloc (Nat.le_refl _) o) _ _ b0
       have k1:=fun o=>keeps_of_below ((Below.refl wr.heap.size wr).alloc (Nat.le_refl _) o) _ _ b1
       have k2:=fun o=>keeps_of_below ((Below.refl wr.heap.size wr).alloc (Nat.le_refl _) o) _ _ b2
       have k3:=fun o=>keeps_of_below ((Below.refl wr.heap.size wr).alloc (Nat.le_refl _) o) _ _ b3
       have k4:=fun o o'=>keeps_of_below (((Below.refl wr.heap.size wr).alloc (Nat.le_refl _) o).alloc (by simp) o') _ _ b3
       clear q0 q1 q2 q3 q4 hXv hxb
       go_wp2_with fail
       generalize hW5:(wr.alloc (.cells #[.int .i64 ze.op,.int .i64 ze.n,.string ze.name,.slice za ze.args.length zc,.string zw] 191)).alloc (.cells #[.int .i64 op,.int .i64 n,.string s,.slice (some ⟨bE,oE,none⟩) args.length ec] 72)=W5
       have hz5:wr.heap.size+2≤W5.heap.size:=by rw[← hW5];simp
       have HB5:Hid (Below wr.heap.size wr W5):=by show Below _ _ _;rw[← hW5];exact belr
       have HA5:Hid (W5.heap[wr.heap.size]? = some (.cells #[.int .i64 ze.op,.int .i64 ze.n,.string ze.name,.slice za ze.args.length zc,.string zw] 191 (0,0))):=by
        show _=_;rw[← hW5]
        exact hx_old (hx_new rfl)
       have HX5:Hid (W5.heap[wr.heap.size+1]? = some (.cells #[.int .i64 op,.int .i64 n,.string s,.slice (some ⟨bE,oE,none⟩) args.length ec] 72 (0,0))):=by
        show _=_;rw[← hW5]
        exact hx_new (by simp)
       clear hW5 b0 b1 b2 b3 d0 d1 d2 d3 d4 k0 k1 k2 k3 k4
       have HBw5:Hid (Below w.heap.size w W5):=HBv.out.trans (HB5.out.mono (by omega))
       refine(cloneE_any args.length (some ⟨bE,oE,none⟩) ec W5 (by show args.length≤_;omega) (exs_cells ((HHE.out.keep (hk_unhide _ _).cell).keep (keeps_of_below HBw5.out)))).mono ?_
       rintro r w6 ⟨⟨a',c',rfl,hcl⟩,hb6⟩
       obtain⟨hc6,hm6,hr6⟩:=hcl
       obtain⟨bF,oF,b',hEF,rfl,hbb,hrow⟩:=hr6.resolve_left (by omega)
       have hb56:=HB5.out.trans (hb6.mono HB5.out.size)
       have hlt6:=hrow.lt
       have hz6:=hb6.size
       simp only[Option.some.injEq,Addr.mk.injEq,and_true] at hEF
       obtain⟨rfl,rfl⟩:=hEF
       have HB6:=Lib.hid hb56
       have HRow:Hid (RowOf w6 b' 72 4 args.length c' (exP w6 (fun j=>besP p (.slice vb L2.length vd) j || decide (wr.heap.size≤j)) args)):=by
        refine exs_same (w0:=World.hide w p) HHE.out rfl (hk_below (HBv.out.trans (hb56.mono (by omega))) fun j hj h=>?_).cell (hrow.mono fun i f hi hf j u hj hu=>(hf j hj).trans (keeps_of_below HBw5.out _ _ (hide_cell _ _ hu)))
        rw[Bool.or_eq_true] at h
        rcases h with h | h
        ·rcases besP_true.1 h with h | h
         ·exact h
         ·have:=(HVi.out j h).1;omega
        ·have:=of_decide_eq_true h;omega
       obtain⟨f,⟨v0,ae,ce,g0,g1,g2,g3,g4,_⟩,hf⟩:=HRow.out.get hlt
       have r0:=hf 0 _ g1
       have r1:=hf 1 _ g2
       have r2:=hf 2 _ g3
       have r3:=hf 3 _ g4
       have rf:=fun o=>HRow.out.unfrozen o
       simp only[Nat.add_zero] at r0
       have HA6:Hid (w6.heap[wr.heap.size]? = some (.cells #[.int .i64 ze.op,.int .i64 ze.n,.string ze.name,.slice za ze.args.length zc,.string zw] 191 (0,0))):=hx_below hb6 HA5.out
       have HX6:Hid (w6.heap[wr.heap.size+1]? = some (.cells #[.int .i64 op,.int .i64 n,.string s,.slice (some ⟨bE,oE,none⟩) args.length ec] 72 (0,0))):=hx_below hb6 HX5.out
       obtain⟨x0,x1,x2,x3,xf⟩:=cell4 HX6.out
       obtain⟨y0,y1,y2,y3,y4,_⟩:=cell5 HA6.out
       have hci:(args.length:Int)≤(c':Int):=by omega
       have hbn:wr.heap.size+1 < b':=by omega
       have hn1:¬ b'=wr.heap.size+1:=by omega
       have hn2:¬ wr.heap.size+1=b':=by omega
       have hn3:¬ wr.heap.size=b':=by omega
       clear hb6 hb56 hrow hr6 g0 g1 g2 g3 g4 hf HB5 HBw5 HA5 HX5
       go_upto_region 15 with fail
       have HE7:=Lib.hid (ver_row (xb:=wr.heap.size+1) (u:=.slice (some ⟨b',0,none⟩) args.length c') (Nat.le_succ _) (by omega) (by omega) (fun j hj=>by have:=HHp.out j hj;omega) (fun j hj=>(HVi.out j hj).2) HRow.out hlt hlen HXv.out HB6.out)
       generalize hW7:((((w6.setCell ⟨wr.heap.size+1,3,none⟩ (.slice (some ⟨b',0,none⟩) args.length c')).setCell ⟨b',k * 4,none⟩ (.int .i64 ze.op)).setCell ⟨b',k * 4+1,none⟩ (.int .i64 ze.n)).setCell ⟨b',k * 4+2,none⟩ (.string ze.name)).setCell ⟨b',k * 4+3,none⟩ (.slice za ze.args.length zc)=W7
       have HY:Hid (ExsIn (World.hide W7 (besP p (.slice vb L2.length vd))) (args.set k ze) (some ⟨b',0,none⟩) c'):=by show ExsIn _ _ _ _;rw[← hW7];exact HE7.out
       have HB7:Hid (Below wr.heap.size wr W7):=by
        show Below _ _ _;rw[← hW7]
        exact((((HB6.out.setCell (Nat.le_succ _) _).setCell (by show wr.heap.size≤b';omega) _).setCell (by show wr.heap.size≤b';omega) _).setCell (by show wr.heap.size≤b';omega) _).setCell (by show wr.heap.size≤b';omega) _
       have HA7:Hid (W7.heap[wr.heap.size]? = some (.cells #[.int .i64 ze.op,.int .i64 ze.n,.string ze.name,.slice za ze.args.length zc,.string zw] 191 (0,0))):=by
        show _=_;rw[← hW7]
        exact hx_set (hx_set (hx_set (hx_set (hx_set HA6.out (by omega)) (by omega)) (by omega)) (by omega)) (by omega)
       have HX7:Hid (W7.heap[wr.heap.size+1]? = some (.cells #[.int .i64 op,.int .i64 n,.string s,.slice (some ⟨b',0,none⟩) args.length c'] 72 (0,0))):=by
        show _=_;rw[← hW7]
        refine hx_set (hx_set (hx_set (hx_set ?_ (by omega)) (by omega)) (by omega)) (by omega)
        rw[heap_setCell_same _ _ _ _ _ _ HX6.out]
        rfl
       clear hW7 HE7 HRow r0 r1 r2 r3 rf HA6 HX6 x0 x1 x2 x3 xf y0 y1 y2 y3 y4 HB6
       have hz7:=HB7.out.size
       have HO7:Hid (OwnV W7 W1.heap.size p (.slice vb L2.length vd) L2):=HO.out.below (verP_keep p) HB7.out
       obtain⟨x0,x1,x2,x3,_⟩:=cell4 HX7.out
       obtain⟨_,_,_,_,y4,_⟩:=cell5 HA7.out
       go_wp2_with (at_builtin;go_must (refine own_appx elemVer W7 (by rfl) (.tmp 60) (.tmp 65) (by rfl) W1.heap.size (.slice vb L2.length vd) L2.length (L2.flatMap verCells) (by rfl) HO7.out.own [.int .i64 op,.int .i64 n,.string s,.slice (some ⟨b',0,none⟩) args.length c',.string zw] 1 _ _ rfl (by simp[Value.oneCell']) (by rfl) (by rfl) (by omega) (by omega) (by omega) ?_))
       intro g cap w8 ho hg hat
       have hb78:Below W7.heap.size W7 (W7.alloc (.cells #[.int .i64 op,.int .i64 n,.string s,.slice (some ⟨b',0,none⟩) args.length c',.string zw] 191)):=(Below.refl _ W7).alloc (Nat.le_refl _) _
       have hvc8:verCells (Ex.mk op n s (args.set k ze),some ⟨b',0,none⟩,c',zw)=[.int .i64 op,.int .i64 n,.string s,.slice (some ⟨b',0,none⟩) args.length c',.string zw]:=by simp[verCells,Ex.op_mk,Ex.n_mk,Ex.name_mk,Ex.args_mk]
       have hyE:ExIn (World.hide W7 (besP p (.slice vb L2.length vd))) (.mk op n s (args.set k ze)) (some ⟨b',0,none⟩) c':=⟨HSz0.out,HY.out⟩
       have HO8:Hid (OwnV w8 W1.heap.size p (.slice (some ⟨g,0,none⟩) (L2.length+1) cap) (L2++[(Ex.mk op n s (args.set k ze),some ⟨b',0,none⟩,c',zw)])):=by
        refine(HO7.out.below (verP_keep p) hb78).add (verP_keep p) ?_ hg (hat.imp id fun h=>by rw[World.size_alloc];omega) (by rw[hvc8];exact ho)
        unfold verP
        rw[hide_hide]
        exact hyE.keep (hk_below hb78 fun j _ h=>by
         rw[Bool.or_eq_true,ownP_true] at h
         exact besP_true.2 h.symm).cell
       have hkA:=(hk_below (p:=besP p (.slice vb L2.length vd)) (q:=besP p (.slice vb L2.length vd)) (HB7.out.trans (hb78.mono hz7)) fun _ _ h=>h).trans (app_hk (n:=L2.length+1) (cap:=cap) hg (hat.imp id fun h=>by rw[World.size_alloc];omega) p)
       have HV8:=Lib.hid (HV.out.keep hkA.cell)
       have HXy8:=Lib.hid (HXy.out.keep hkA.cell)
       have HK8:Hid ((World.hide w8 (besP p (.slice (some ⟨g,0,none⟩) (L2.length+1) cap))).heap[wo.heap.size]? = some (.cells #[.int .i64 y.op,.int .i64 y.n,.string y.name,.slice xa y.args.length xc] 72 (0,0))):=hkA _ _ HK.out (by unfold hidO;simp)
       have HB8:Hid (Below W1.heap.size W1 w8):=Below.grown ((HB.out.trans (HB7.out.mono hzi)).alloc (by omega) _) hg (by rw[World.size_alloc];omega) (fun j hj=>(HVi.out j hj).1)
       have HT8:Hid ((L2++[(Ex.mk op n s (args.set k ze),some ⟨b',0,none⟩,c',zw)]:List VA).map verOf=VK k++(L9.take (m+1)).map fun x=>(Ex.mk op n s (args.set k x.1),x.2.2.2)):=by
        show _=_
        rw[List.map_append,HT.out,HTk.out,List.append_assoc]
        rfl
       clear ho hg hat hb78 hyE hkA hvc8 x0 x1 x2 x3 y4
       go_wp2_with fail
       go_roundw
       case rel=>exact⟨m+1,L2++[(Ex.mk op n s (args.set k ze),some ⟨b',0,none⟩,c',zw)],by go_num,by omega,HT8,HO8,HV8,HK8,HXy8,HB8⟩
       case measure=>(simp[intOf];try omega)
      ·obtain rfl:m=L9.length:=by omega
       have hka:=hk_unhide _ _ _ _ HK.out (by unfold hidO;simp)
       obtain⟨a0,a1,a2,a3,_⟩:=cell4 hka
       have HSz2:=Lib.hid (HSy.out wr (HXy.out.keep (hk_unhide _ _).cell))
       have HTT:Hid (L2.map verOf=VK (k+1)):=by
        show _=_
        rw[HT.out,List.take_length,HVSk.out,← Hm9.out,List.map_map]
        rfl
       have hsn:(sizeK args k:Int)+y.nodes.length≤nl:=by omega
       have hfn2:(first:Int)+nl≤65536:=by omega
       go_wp2_with fail
       refine HSz2.out.mono ?_
       rintro r wz ⟨rfl,hbz⟩
       have HOz:=Lib.hid (HO.out.below (verP_keep p) hbz)
       have HBz:Hid (Below W1.heap.size W1 wz):=HB.out.trans (hbz.mono hzi)
       clear hbz a0 a1 a2 a3 hka
       go_wp2_with fail
       go_roundw
       case rel=>exact⟨k+1,L2,by go_num,by omega,by rw[HSk.out];congr 1;push_cast;omega,HTT,HOz,HBz⟩
       case measure=>(simp[intOf];try omega)
    ·obtain rfl:k=args.length:=by omega
     have hm:L.map verOf=VS:=HL.out.trans HVA.out
     have HP':Hid (∀ v W,OwnV W w.heap.size p v L→Below w.heap.size w W→Po (.returned v) W):=fun v W h1 h2=>HP.out v L W h1 hm h2
     have HO':Hid (OwnV wr w.heap.size p _ L):=HO.out.imp (by omega) fun _ _ h=>h
     clear hm
     go_wp2_with fail
     first | exact HP'.out _ _ HO'.out HBw.out | (go_ret;exact HP'.out _ _ HO'.out HBw.out)
end Go.Proofs.YtebneadheaefdaaGreatDoor
namespace Go.Proofs.YtebneadheaefdaaGreatDoor
open Go.RowKit
theorem vers_what (e:Ex) (first:Nat) (h:first+e.nodes.length≤65536):∀ v∈versS e first,v.2.size≤70000:=by
 intro v hv
 rw[sites_eq] at hv
 obtain⟨⟨x,k⟩,hp,hv⟩:=List.mem_filterMap.1 hv
 have hk:=(List.mem_zipIdx hp).2.1
 unfold siteF at hv
 split at hv
 ·simp at hv
 ·obtain rfl:=Option.some.inj hv
  have h1:=fmt_len (first+k)
  have h2:(kindS x.op).size≤9:=by
   unfold kindS
   split
   ·decide
   ·split
    ·decide
    ·split<;>decide
  show ((fmtS ((first+k:Nat):Int)++⟨#[32]⟩)++kindS x.op).size≤_
  rw[ByteArray.size_append,ByteArray.size_append]
  have h3:(⟨#[32]⟩:ByteArray).size=1:=rfl
  omega
theorem elemMut:Elem Tryz.prog 94 98 6:=Elem.of Tryz.underlying94 (by kernel_rfl) (z:=.agg #[.string .empty,.slice none 0 0,.slice none 0 0,.slice none 0 0,.slice none 0 0,.string .empty]) (bytes:=128) rfl (by decide) (by decide)
abbrev MA:=DesD × DesA × ByteArray
def mutCells (m:MA):List Value:=[.string m.1.name,.slice m.2.1.ai m.1.inputs.length m.2.1.ci,.slice m.2.1.aw m.1.wires.length m.2.1.cw,.slice m.2.1.ar m.1.regs.length m.2.1.cr,.slice m.2.1.ao m.1.outputs.length m.2.1.co,.string m.2.2]
def mutP (B:Nat) (H:World) (m:MA):Prop:=∃ bw br,NewA H B m.1 m.2.1 bw br
theorem mutP_keep (B:Nat):∀ (H H':World) (m:MA),HK H H'→mutP B H m→mutP B H' m:=fun _ _ _ h ⟨bw,br,hm⟩=>⟨bw,br,hm.keep h⟩
def mutOf (m:MA):Mut:=(m.1,m.2.2)
abbrev OwnM (w:World) (B:Nat) (v:Value) (L:List MA):Prop:=OwnR w B 98 6 mutCells (mutP B) v L
def MutsIn (B:Nat) (H:World) (L:List MA) (a:Option Addr) (cap:Nat):Prop:=SliceIn 6 L.length a cap (fun i b o=>∃ m,L[i]? = some m∧(∀ j u,(mutCells m)[j]? = some u→H.cell? ⟨b,o+j,none⟩=some u)∧mutP B H m)
theorem MutsIn.keep {B:Nat} {H H':World} {L:List MA} {a:Option Addr} {cap:Nat} (h:MutsIn B H L a cap) (hk:HK H H'):MutsIn B H' L a cap :=
 h.mono fun _ _ _ _ ⟨m,h1,h2,h3⟩=>⟨m,h1,fun j u hu=>hk.cell _ _ (h2 j u hu),mutP_keep B _ _ _ hk h3⟩
theorem MutsIn.get {B:Nat} {H:World} {L:List MA} {a:Option Addr} {cap:Nat} (h:MutsIn B H L a cap) {b off:Nat} (ha:a=some ⟨b,off,none⟩) {i:Nat} (hi:i < L.length) :
  (∀ j u,(mutCells (L[i]'hi))[j]? = some u→H.cell? ⟨b,off+i * 6+j,none⟩=some u)∧mutP B H (L[i]'hi):=by
 rcases h.2.2 with h | ⟨b',off',ha',hq⟩
 ·omega
 ·rw[ha] at ha'
  simp only[Option.some.injEq,Addr.mk.injEq,and_true] at ha'
  obtain⟨rfl,rfl⟩:=ha'
  obtain⟨x,hx,h1,h2⟩:=hq i hi
  rw[List.getElem?_eq_getElem hi] at hx
  obtain rfl:=Option.some.inj hx
  exact⟨h1,h2⟩
theorem OwnR.muts {w:World} {B:Nat} {v:Value} {L:List MA} {q:Nat→Bool} (h:OwnM w B v L) (hn:L.length≤1073741824) (hq:∀ k,q k=true→k < B):∃ a cap,v=.slice a L.length cap∧MutsIn B (World.hide w q) L a cap∧(L.length=0∨∃ b,a=some ⟨b,0,none⟩):=by
 obtain⟨a,cap,rfl,hc,hb,hs⟩:=h.slice hn
 refine⟨a,cap,rfl,⟨hc,hn,hs.imp id ?_⟩,hs.imp id fun ⟨b,h1,_⟩=>⟨b,h1⟩⟩
 rintro ⟨b,rfl,hB,hv⟩
 refine⟨b,0,rfl,fun i hi=>?_⟩
 rw[Nat.zero_add]
 obtain⟨bw,br,hm⟩:=h.mem _ (List.getElem_mem hi)
 refine⟨L[i]'hi,List.getElem?_eq_getElem hi,fun j u hu=>?_,bw,br,(hm.keep (hk_unhide _ _)).beside hq⟩
 have hj:j < 6:=(List.getElem?_eq_some_iff.1 hu).1
 have hqb:q b=false:=by
  cases e:q b with
  | false=>rfl
  | true=>have:=hq b e;omega
 exact cell_hide.2 ⟨hqb,(h.cellsAt (fun _=>rfl) rfl hi hj).trans hu⟩
theorem gr_refl (w:World) (row:Option Nat):w.grownBy w row:=⟨rfl,rfl,rfl,Nat.le_refl _,fun _ _ _=>rfl⟩
theorem gr_drew {w w':World} {row:Option Nat} (h:w.grownBy w' row):w.grownBy w'.drew row:=⟨h.os,h.tape,h.output,h.size,h.block⟩
theorem gr_below {w w' w2:World} {row:Option Nat} (h:w.grownBy w' row) (hb:Below w'.heap.size w' w2):w.grownBy w2 row :=
 ⟨hb.os.trans h.os,hb.tape.trans h.tape,hb.output.trans h.output,Nat.le_trans h.size hb.size,fun k hk hn=>(hb.block k (Nat.lt_of_lt_of_le hk h.size)).trans (h.block k hk hn)⟩
theorem gr_alloc {w w':World} {row:Option Nat} (h:w.grownBy w' row) (o:Obj):w.grownBy (w'.alloc o) row:=gr_below h ((Below.refl _ _).alloc (Nat.le_refl _) o)
theorem gr_trans {w w' w2:World} {row:Option Nat} (h:w.grownBy w' row) (h2:w'.grownBy w2 row):w.grownBy w2 row :=
 ⟨h2.os.trans h.os,h2.tape.trans h.tape,h2.output.trans h.output,Nat.le_trans h.size h2.size,fun k hk hn=>(h2.block k (Nat.lt_of_lt_of_le hk h.size) hn).trans (h.block k hk hn)⟩
theorem gr_set {w w':World} {b o:Nat} {u:Value} (h:w.grownBy w' (some b)):w.grownBy (w'.setCell ⟨b,o,none⟩ u) (some b) :=
 ⟨h.os,h.tape,h.output,by rw[World.size_setCell];exact h.size,fun k hk hn=>(Below.heap_setCell _ _ _ _ (fun e=>hn (by rw[show k=b from e]))).trans (h.block k hk hn)⟩
theorem gr_blk {w w':World} {row:Option Nat} {b:Nat} {o:Obj} (h:w.grownBy w' row) (hb:w.heap[b]? = some o) (hn:row≠some b):w'.heap[b]? = some o:=(h.block b (lt_of_block hb) (Ne.symm hn)).trans hb
theorem gr_bel {B:Nat} {w0 w w':World} {row:Option Nat} (h:Below B w0 w) (hg:w.grownBy w' row) (hB:B≤w.heap.size) (hr:∀ k,row=some k→B≤k):Below B w0 w':=h.grown hg hB hr
theorem mut_add {B B4:Nat} {wr W8 X wg:World} {v:Value} {L:List MA} {d:DesD} {x:DesA} {t:ByteArray} {bw br:Option Nat} {g cap:Nat} (hO:OwnM wr B v L) (h8:Below wr.heap.size wr W8) (hX:Below W8.heap.size W8 X) (hN:NewA W8 B4 d x bw br) (h4:wr.heap.size≤B4) (hB:B≤B4)
  (hg:X.grownBy wg v.ownBlock) (hat:v.ownBlock=some g∨X.heap.size≤g) (ho:wg.ownsRow B 98 6 (.slice (some ⟨g,0,none⟩) (L.length+1) cap) (L.length+1) (L.flatMap mutCells++mutCells (d,x,t))) :
  OwnM wg B (.slice (some ⟨g,0,none⟩) (L.length+1) cap) (L++[(d,x,t)]):=by
 refine(hO.below (mutP_keep B) (h8.trans (hX.mono h8.size))).add (mutP_keep B) ⟨bw,br,?_⟩ hg hat ho
 exact NewD.mono (NewD.beside (hN.keep (hk_plain hX)) fun k hk=>by
  have:=(hO.own.lt k (ownP_true.1 hk)).2
  omega) hB
end Go.Proofs.YtebneadheaefdaaGreatDoor
