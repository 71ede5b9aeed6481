/- The keys of a map from numbers, sorted. -/
import Derived.Test.YtebneadheaefdaaGreatDoorDH
import Derived.Test.YtebneadheaefdaaGreatDoorShelfI
set_option linter.unusedSimpArgs false
set_option linter.unusedVariables false
set_option linter.unnecessarySimpa false
namespace Go.Proofs.YtebneadheaefdaaGreatDoor
open Go.RowKit Go.WideMaps Go.Maps Go.Sort Go.Shelf
theorem keys_any (mb:Option Nat) (W:World):Calls Tryz.prog 139 #[.map mb] W fun e w'=>e=.returned (.func (.func 179) #[] #[.pointer (some ⟨W.heap.size,0,none⟩)])∧w'=W.alloc (.cells #[.map mb] 161) :=
 (callsIn_wide (n:=6)).1 (AnyZI.keys_in Tryz.keysA Fence.wide 6 trivial rfl mb W)
theorem sortsA (m:Nat):AnyZI.SortsIn Tryz.prog Tryz.sortedA_ren Fence.wide m :=
 ⟨fun blk off cap ss W hH hblk hsz=>callsIn_wide.2 (Tryz.slices_Sort_int blk off cap ss W hH hblk hsz),fun p cap W=>callsIn_wide.2 (Tryz.slices_Sort_int_none p cap W)⟩
def leftL (n:Nat) (out:List Nat):List Nat:=(List.range n).filter fun i=>!out.contains i
theorem leftL_mem {n:Nat} {out:List Nat} {i:Nat}:i∈leftL n out↔i < n∧i∉out:=by unfold leftL;simp
theorem leftL_sorted (n:Nat) (out:List Nat):(natI (leftL n out)).Pairwise fun a b=>a < b:=by
 unfold natI leftL
 rw[List.pairwise_map]
 refine List.Pairwise.imp (R:=(· < ·)) (fun {a b} h=>by simpa using h) ?_
 exact List.Pairwise.sublist List.filter_sublist List.pairwise_lt_range
theorem sorted_is {l ss:List Int} (hl:l.Pairwise fun a b=>a < b) (hp:ss.Perm l):ss.mergeSort (fun x y=>decide (x≤y))=l:=by
 have h1:=mergeSort_of_perm_i hp
 show ss.mergeSort leI=l
 rw[h1]
 exact List.mergeSort_of_pairwise (hl.imp fun {a b} h=>by simp[leI];omega)
theorem left_perm {W:World} {b m n:Nat} {V:Nat→Value} {out:List Nat} {D:DataW Value} (hown:W.ownsMap Tryz.prog 3 heldR b m D) (hf:∀ kl,Maps.has D kl=(ordF V n out kl).isSome):(natI (leftL n out)).Perm (intKeys D):=by
 obtain⟨es,rfl,hpw,_⟩:=hown.entries keyed_int
 obtain⟨es',hD',hko⟩:=hown.keysOf
 obtain rfl:es=es':=by simpa using hD'
 refine perm_intKeys hpw (fun p hp=>by obtain⟨v,hv⟩:=hko p hp;obtain⟨x,_,hx,_⟩:=Maps.keyOf_i64 Tryz.underlying3 hv;exact⟨x,hx⟩) ?_ (fun x=>?_)
 ·exact(leftL_sorted n out).imp fun {a b} h=>by omega
 ·rw[hf]
  unfold natI
  rw[List.mem_map]
  constructor
  ·rintro ⟨i,hi,rfl⟩
   obtain⟨h1,h2⟩:=leftL_mem.1 hi
   rw[show (Int.ofNat i)=(i:Int) from rfl,ordF_at h1 h2];rfl
  ·intro h
   unfold ordF at h
   simp only at h
   split at h
   ·rename_i hx
    exact⟨x.toNat,leftL_mem.2 ⟨by omega,hx.2.2⟩,by show ((x.toNat:Nat):Int)=x;omega⟩
   ·simp at h
set_option maxHeartbeats 1000000 in
theorem sorted_any (W:World) (B b m n:Nat) (V:Nat→Value) (out:List Nat) (hB:W.cell? ⟨B,0,none⟩=some (.map (some b))) (hM:MapV W Tryz.prog 3 b m (ordF V n out)) (hm:m≤1000000) (hn:n≤1000000) :
  Calls Tryz.prog 138 #[.func (.func 179) #[] #[.pointer (some ⟨B,0,none⟩)]] W fun e w'=>(∃ a cap,e=.returned (.slice a (leftL n out).length cap)∧IntsIn w' (natI (leftL n out)) a cap)∧Below W.heap.size W w':=by
 obtain⟨D,h1,h2,h3,h4⟩:=hM
 have hlt:=World.block_lt_of_cell? _ _ hB
 have hseq:SeqGives Fence.wide 2 Tryz.prog 179 #[.pointer (some ⟨B,0,none⟩)] encZ (fun ss=>ss.Perm (intKeys D)) (Maps.size D) W :=
  AnyZI.keys_gives (ρ:=Tryz.keysA_ren) { Tryz.keysA with } Fence.wide _ trivial rfl (by omega) B b m D W hlt hB h1
 have cS:=AnyZI.sorted_in Tryz.sortedA Fence.wide 5 trivial trivial trivial trivial rfl (by omega) (sortsA _) (enters_of Tryz.func178 (by kernel_rfl) rfl) 179 #[.pointer (some ⟨B,0,none⟩)] trivial (enters_of Tryz.func179 (by kernel_rfl) rfl) _ _ (by rw[h3];unfold maxLen;omega) (by rw[h3];omega) W hseq
 refine((callsIn_wide (n:=5)).1 cS).mono ?_
 rintro e w' ⟨v,ss,rfl,hS,hrow,hnil,hb⟩
 have hp:=left_perm h1 (fun kl=>(h4 kl).1)
 have hss:=sorted_is (leftL_sorted n out) (hS.trans hp.symm)
 rw[hss] at hrow
 have hl:ss.length=(natI (leftL n out)).length:=(hS.trans hp.symm).length_eq
 rw[hl] at hrow
 obtain⟨a,cap,rfl,hI⟩:=ints_of_own hrow (by
  rw[natI_len]
  unfold leftL
  refine Nat.le_trans (List.length_filter_le _ _) ?_
  rw[List.length_range];omega)
 rw[natI_len]
 exact⟨⟨a,cap,rfl,hI⟩,hb⟩
end Go.Proofs.YtebneadheaefdaaGreatDoor
namespace Go.Proofs.YtebneadheaefdaaGreatDoor
open Go.RowKit Go.WideMaps
attribute [local go_sem ↓] Go.wp_at_zero Go.wp_at_succ
theorem Contains_ints (l:List Int) (a:Option Addr) (cap:Nat) (v:Int) (w:World) (hE:IntsIn w l a cap) :
  Calls Tryz.prog 141 #[.slice a l.length cap,.int .i64 v] w fun e w'=>e=.returned (.bool (l.contains v))∧w=w':=by
 by_cases h0:l=[]
 ·subst h0
  exact(Tryz.slices_Contains_int_empty a cap v w).mono fun e w' h=>⟨h.1,h.2.symm⟩
 ·obtain⟨b,off,rfl⟩:=hE.addr.resolve_left (by simpa using h0)
  have:=Tryz.slices_Contains_int b off l.length cap l v w (Nat.le_refl _) (by have:=hE.2.1;omega) (fun j hj=>by
   rw[intsIn_get hE rfl hj];simp[hj])
  rw[List.take_of_length_le (Nat.le_refl _)] at this
  exact this.mono fun e w' h=>⟨h.1,h.2.symm⟩
theorem waits_any (k:Int) (bo:Nat) (l:List Int) (a:Option Addr) (cap:Nat) (w:World) (hc:w.cell? ⟨bo,0,none⟩=some (.slice a l.length cap)) (hE:IntsIn w l a cap) :
  Calls Tryz.prog 140 #[.int .i64 k,.pointer (some ⟨bo,0,none⟩)] w fun e w'=>e=.returned (.bool (!l.contains k))∧Below w.heap.size w w':=by
 have HC:=Lib.hid (Contains_ints l a cap k w hE)
 clear hE
 generalize l.contains k=b at HC⊢
 go_enter Tryz.func140, Tryz.ntmps140
 go_wp2_with fail
 refine HC.out.mono ?_
 rintro e w1 ⟨rfl,rfl⟩
 cases b
 ·go_wp2_with fail
  go_ret
  exact⟨rfl,Below.refl _ _⟩
 ·go_wp2_with fail
  go_ret
  exact⟨rfl,Below.refl _ _⟩
theorem natI_contains (l:List Nat) (k:Nat):(natI l).contains (k:Int)=l.contains k:=by
 rw[Bool.eq_iff_iff,List.contains_iff_mem,List.contains_iff_mem]
 unfold natI
 rw[List.mem_map]
 constructor
 ·rintro ⟨i,hi,he⟩
  have:i=k:=by have:(i:Int)=k:=he;omega
  rw[← this];exact hi
 ·intro h;exact⟨k,h,rfl⟩
theorem any_waits (nd:Nat→List Nat) (out:List Nat) (i:Nat):((natI (nd i)).any fun k=>!(natI out).contains k)=!readyB nd out i:=by
 unfold readyB
 generalize nd i=l
 induction l with
 | nil=>rfl
 | cons x l ih =>
  have:(natI (x::l))=(x:Int)::natI l:=rfl
  rw[this,List.any_cons,List.all_cons,ih,natI_contains]
  cases out.contains x<;>simp
theorem nextO_left (n:Nat) (nd:Nat→List Nat) (out:List Nat):nextO n nd out=(leftL n out).find? (readyB nd out):=by
 unfold nextO leftL
 rw[List.find?_filter]
 congr 1
 funext a
 cases out.contains a<;>cases readyB nd out a<;>rfl
theorem find_at {α:Type} {p:α→Bool} {l:List α} {q:Nat} (hq:q < l.length) (h0:∀ r (hr:r < l.length),r < q→p (l[r]'hr)=false) (h1:p (l[q]'hq)=true):l.find? p=some (l[q]'hq):=by
 induction l generalizing q with
 | nil=>simp at hq
 | cons x l ih =>
  cases q with
  | zero=>rw[List.find?_cons_of_pos (by simpa using h1)];rfl
  | succ q =>
   have hx:=h0 0 (by simp) (by omega)
   rw[List.find?_cons_of_neg (by simpa using hx)]
   exact ih (by simpa using hq) (fun r hr hrq=>h0 (r+1) (by simpa using hr) (by omega)) (by simpa using h1)
theorem find_no {α:Type} {p:α→Bool} {l:List α} (h0:∀ r (hr:r < l.length),p (l[r]'hr)=false):l.find? p=none:=by
 rw[List.find?_eq_none]
 intro x hx
 obtain⟨r,hr,rfl⟩:=List.getElem_of_mem hx
 simpa using h0 r hr
def OrderPost (w:World) (d:DesD) (e:Ending) (w':World):Prop :=
 ((d.order.length=d.wires.length∧∃ a cap,e=.returned (.tuple #[.slice a d.order.length cap,.bool true])∧IntsIn w' (natI d.order) a cap)∨(d.order.length < d.wires.length∧e=.returned (.tuple #[.slice none 0 0,.bool false])))∧Below w.heap.size w w'
set_option maxRecDepth 100000 in
set_option maxHeartbeats 16000000 in
theorem order_any (d:DesD) (x:DesA) (w:World) (hE:DesIn w d x) (hs:DesSmall d) (hd:dupT (d.wires.map (·.name))=false) (hn:d.wires.length≤1000) :
  Calls Tryz.prog 78 #[desVal d x] w (OrderPost w d):=by
 have HN0:=Lib.hid (fun W (hW:Below w.heap.size w W)=>needs_any d x W (hE.below hW) hs hd hn)
 have HP1:Hid (∀ a cap w',d.order.length=d.wires.length→IntsIn w' (natI d.order) a cap→Below w.heap.size w w'→OrderPost w d (.returned (.tuple #[.slice a d.order.length cap,.bool true])) w'):=fun a cap w' h1 h2 h3=>⟨Or.inl ⟨h1,a,cap,rfl,h2⟩,h3⟩
 have HP0:Hid (∀ w',d.order.length < d.wires.length→Below w.heap.size w w'→OrderPost w d (.returned (.tuple #[.slice none 0 0,.bool false])) w'):=fun w' h1 h2=>⟨Or.inr ⟨h1,rfl⟩,h2⟩
 generalize OrderPost w d=Po at HP1 HP0⊢
 have HOD:Hid (d.order=orderO d.wires.length d.needs d.wires.length):=rfl
 generalize d.order=OD at HP1 HP0 HOD
 simp only[desVal,desVals] at HN0⊢
 have HN1:Hid (∀ W,Below w.heap.size w W→Calls Tryz.prog 137 #[.agg #[.string d.name,.slice x.ai d.inputs.length x.ci,.slice x.aw d.wires.length x.cw,.slice x.ar d.regs.length x.cr,.slice x.ao d.outputs.length x.co]] W fun e w'=>∃ b V,e=.returned (.map (some b))∧W.heap.size≤b∧MapV w' Tryz.prog 3 b d.wires.length (ordF V d.wires.length [])∧NeedsIn w' d b V d.wires.length∧Below W.heap.size W w'):=fun W hW=>(HN0.out W hW).mono fun e w' h=>h
 clear HN0 hE hs hd
 have HNe:Hid (∀ W b V n,NeedsIn W d b V n→∀ i,i < n→∃ a cap,V i=.slice a (d.needs i).length cap∧IntsIn W (natI (d.needs i)) a cap):=fun W b V n h i hi=>h i hi
 generalize d.wires.length=n at *
 generalize d.name=nm at *
 generalize x.aw=aw at *
 generalize hins:d.inputs=ins at *
 generalize hregs:d.regs=regs at *
 generalize houts:d.outputs=outs at *
 clear hins hregs houts
 obtain⟨ai,ci,_,cw,ar,cr,ao,co⟩:=x
 simp only at HN1⊢
 have HN2:=Lib.hid (HN1.out (w.alloc (.cells #[.string nm,.slice ai ins.length ci,.slice aw n cw,.slice ar regs.length cr,.slice ao outs.length co] 27)) ((Below.refl _ _).alloc (Nat.le_refl _) _))
 clear HN1
 go_enter Tryz.func78, Tryz.ntmps78
 go_wp2_with fail
 refine HN2.out.mono ?_
 rintro e w1 ⟨b,V,rfl,hb,hM,hNi,hb1⟩
 simp only[World.size_alloc] at hb hb1
 have HB1:=Lib.hid (boxW _ (by simpa using hb1):Below w.heap.size w w1)
 have HNi:=Lib.hid (HNe.out w1 b V n hNi)
 have HM1:=Lib.hid hM
 have hbl:=hM.lt
 clear hb1 hNi HNe hM HN2
 go_wp2_with fail
 have HO0:=Lib.hid (show (w1.alloc (.cells #[.slice none 0 0] 40)).heap[w1.heap.size]? = some (.cells #[.slice none 0 0] 40 (0,0)) from heap_alloc_at _ _ _ rfl)
 have HBa:Hid (Below w.heap.size w (w1.alloc (.cells #[.slice none 0 0] 40))):=HB1.out.alloc HB1.out.size _
 have HMa:=Lib.hid (HM1.out.alloc (.cells #[.slice none 0 0] 40))
 have HKa:Hid (∀ a u,w1.cell? a=some u→(w1.alloc (.cells #[.slice none 0 0] 40)).cell? a=some u):=keeps_of_below ((Below.refl _ _).alloc (Nat.le_refl _) _)
 go_loopg [6,8,9] n (fun gk _ _ _ wr=>∃ (j:Nat) (v:Value),j+gk=n∧Hid ((orderO n d.needs j).length=j)∧Hid (MapV wr Tryz.prog 3 b gk (ordF V n (orderO n d.needs j)))∧Hid (wr.heap[w1.heap.size]? = some (.cells #[v] 40 (0,0)))∧Hid (wr.ownsRow w1.heap.size 3 1 v j ((natI (orderO n d.needs j)).map (Value.int .i64)))∧Hid (∀ a u,w1.cell? a=some u→wr.cell? a=some u)∧Hid (Below w.heap.size w wr))
 case atStart=>exact⟨0,.slice none 0 0,by omega,rfl,HMa.out,HO0,World.ownsRow_nil _ _ _ _,HKa,HBa⟩
 case round =>
  obtain⟨j,v,hj,HLj,HMr,HOr,HRr,HKr,HBr⟩:=hrel
  have hj1:j≤n:=by omega
  by_cases hgk:gk=0
  ·obtain rfl:j=n:=by omega
   subst hgk
   obtain⟨av,cv,hv,hI⟩:=ints_of_own (l:=natI (orderO j d.needs j)) (by rw[natI_len,HLj.out];exact HRr.out) (by rw[natI_len,HLj.out];omega)
   subst hv
   have c0:=cell_of_one HOr.out
   rw[natI_len,HLj.out] at c0
   have HPe:=Lib.hid (HP1.out av cv wr (by rw[HOD.out];exact HLj.out) (by rw[HOD.out];exact hI) HBr.out)
   rw[HOD.out,HLj.out] at HPe
   clear hI
   go_wp2_with (at_len;go_must (refine wp_mapV_len _ rfl _ 161 3 40 rfl (by kernel_rfl) rfl HMr.out ?_))
   exact HPe.out
  ·obtain⟨g,rfl⟩:∃ g,gk=g+1:=⟨gk - 1,by omega⟩
   have hjn:j < n:=by omega
   have HNone:Hid (nextO n d.needs (orderO n d.needs j)=none→OD.length < n):=fun h=>by rw[HOD.out];exact orderO_short hjn h
   have HSome:Hid (∀ i,nextO n d.needs (orderO n d.needs j)=some i→orderO n d.needs (j+1)=orderO n d.needs j++[i]∧i < n∧i∉orderO n d.needs j):=fun i h=>⟨orderO_next h,(nextO_some h).1,(nextO_some h).2.1⟩
   rw[nextO_left] at HNone HSome
   generalize hOj:orderO n d.needs (j+1)=Oj at HSome
   have HOj:=Lib.hid hOj
   clear hOj
   generalize hO:orderO n d.needs j=O at HLj HMr HRr HNone HSome
   clear hO
   have HKeys:=Lib.hid (keys_any (some b) wr)
   have HBk:Hid (Below wr.heap.size wr (wr.alloc (.cells #[.map (some b)] 161))):=(Below.refl _ _).alloc (Nat.le_refl _) _
   have HSrt:=Lib.hid (sorted_any (wr.alloc (.cells #[.map (some b)] 161)) wr.heap.size b (g+1) n V O (by simp) (HMr.out.alloc _) (by omega) (by omega))
   have HLm:Hid (∀ q (hq:q < (leftL n O).length),(leftL n O)[q]'hq < n∧(leftL n O)[q]'hq∉O):=fun q hq=>leftL_mem.1 (List.getElem_mem hq)
   have hLl:(leftL n O).length≤1000:=by
    unfold leftL
    refine Nat.le_trans (List.length_filter_le _ _) ?_
    rw[List.length_range];exact hn
   have HFa:Hid (∀ q (hq:q < (leftL n O).length),(∀ r (hr:r < (leftL n O).length),r < q→readyB d.needs O ((leftL n O)[r]'hr)=false)→readyB d.needs O ((leftL n O)[q]'hq)=true→(leftL n O).find? (readyB d.needs O)=some ((leftL n O)[q]'hq)):=fun q hq h0 h1=>find_at hq h0 h1
   have HFn:Hid ((∀ r (hr:r < (leftL n O).length),r < (leftL n O).length→readyB d.needs O ((leftL n O)[r]'hr)=false)→(leftL n O).find? (readyB d.needs O)=none):=fun h0=>find_no fun r hr=>h0 r hr hr
   generalize (leftL n O).find? (readyB d.needs O)=FD at HNone HSome HFa HFn
   generalize leftL n O=L at HSrt HLm hLl HFa HFn
   clear HO0 HBa HMa HKa
   go_wp2_with (first | (at_len;go_must (refine wp_mapV_len _ rfl _ 161 3 40 rfl (by kernel_rfl) rfl HMr.out ?_)) | (go_at_call 139;(with_reducible refine HKeys.out.mono ?_);rintro e w' ⟨rfl,rfl⟩))
   refine HSrt.out.mono ?_
   rintro e ws ⟨⟨aL,cL,rfl,hIL⟩,hbs⟩
   have HBs:=Lib.hid (HBk.out.trans (hbs.mono HBk.out.size))
   have HIL:=Lib.hid hIL
   have HLA:=Lib.hid hIL.addr
   clear hIL hbs HSrt HKeys
   have hLl2:=hLl
   rw[← natI_len] at hLl
   rw[natI_len] at HLA
   go_wp2_with fail
   go_loopw [19,6,8,9] (fun i nx _ _ wz=>∃ q:Nat,i=.int .i64 q∧nx=.int .i64 (-1)∧q≤L.length∧Hid (∀ r (hr:r < L.length),r < q→readyB d.needs O (L[r]'hr)=false)∧Hid (Below ws.heap.size ws wz)) (fun i _ _ _ _=>L.length - (intOf i).toNat)
   case atStart=>exact⟨0,rfl,rfl,Nat.zero_le _,fun _ _ h=>absurd h (by omega),Below.refl _ _⟩
   case round =>
    rename World=>wz
    obtain⟨q,rfl,rfl,hq,HF,HBz⟩:=hrel
    have HBrz:=Lib.hid (HBs.out.trans (HBz.out.mono HBs.out.size))
    by_cases hlq:q < L.length
    ·obtain⟨bL,oL,haL⟩:=HLA.out.resolve_left (by omega)
     subst haL
     have cq:=intsIn_get (HIL.out.keep (keeps_of_below HBz.out)) rfl (show q < (natI L).length by rw[natI_len];exact hlq)
     have hLq:(natI L)[q]'(by rw[natI_len];exact hlq)=((L[q]'hlq:Nat):Int):=by simp[natI]
     rw[hLq] at cq
     clear hLq
     obtain⟨hm1,hm2⟩:=HLm.out q hlq
     obtain⟨an,cn,hV,hIn⟩:=HNi.out _ hm1
     have HFq:=Lib.hid (HFa.out q hlq HF.out)
     have HFx:Hid (readyB d.needs O (L[q]'hlq)=false→∀ r (hr:r < L.length),r < q+1→readyB d.needs O (L[r]'hr)=false):=fun h r hr hrq=>by
      by_cases e:r=q
      ·subst e;exact h
      ·exact HF.out r hr (by omega)
     generalize (L[q]'hlq)=i at cq hm1 hm2 hV hIn HFq HFx
     have HVi:Hid (ordF V n O (.int .i64 i)=some (.slice an (d.needs i).length cn)):=by show _=_;rw[ordF_at hm1 hm2,hV]
     obtain⟨ao',co',hv',hI'⟩:=ints_of_own (l:=natI O) (by rw[natI_len,HLj.out];exact HRr.out) (by rw[natI_len,HLj.out];omega)
     rw[natI_len,HLj.out] at hv'
     subst hv'
     have HMz:=Lib.hid (HMr.out.below HBrz.out)
     have HOz:=Lib.hid ((HBrz.out.block _ (lt_of_block HOr.out)).trans HOr.out)
     have HRz:=Lib.hid (ownsRow_below HRr.out HBrz.out)
     have HIz:=Lib.hid (hI'.keep (keeps_of_below HBrz.out))
     have HKz:=Lib.hid (hk_trans HKr.out (keeps_of_below HBrz.out))
     have hIz:IntsIn wz (natI (d.needs i)) an cn:=hIn.keep HKz.out
     have hCF:=containsFunc_waits w1.heap.size (fun k=>!(natI O).contains k) (natI (d.needs i)) an cn wz hIz (fun v hv W hW=>waits_any v w1.heap.size (natI O) ao' co' W (by
      have h1:=cell_of_one HOz.out
      have h2:=(keeps_of_below hW) _ _ h1
      rw[natI_len,HLj.out]
      exact h2) (HIz.out.keep (keeps_of_below hW)))
     rw[any_waits,natI_len] at hCF
     have HCF:=Lib.hid hCF
     have hib:i≤1073741824:=by omega
     clear hCF hIn hI' hV hIz
     cases hr:readyB d.needs O i
     ·rw[hr] at HCF
      simp only[Bool.not_false] at HCF
      have HFx2:=Lib.hid (HFx.out hr)
      clear hr HFx HFq
      go_wp2_with (at_lookup;go_must (refine wp_mapV_get _ rfl _ _ 161 40 rfl keyed_int (by kernel_rfl) (zero_ints _) rfl HMz.out _ _ rfl (key_int hib) _ HVi.out ?_))
      refine HCF.out.mono ?_
      rintro e wy ⟨rfl,hby⟩
      have HBy:=Lib.hid (HBz.out.trans (hby.mono HBz.out.size))
      clear hby cq
      go_wp2_with fail
      go_roundw
      case rel=>exact⟨q+1,by go_num,rfl,by omega,HFx2,HBy⟩
      case measure=>(simp[intOf];try omega)
     ·rw[hr] at HCF
      simp only[Bool.not_true] at HCF
      have HFq2:=Lib.hid (HFq.out hr)
      clear hr HFx HFq
      go_wp2_with (at_lookup;go_must (refine wp_mapV_get _ rfl _ _ 161 40 rfl keyed_int (by kernel_rfl) (zero_ints _) rfl HMz.out _ _ rfl (key_int hib) _ HVi.out ?_))
      refine HCF.out.mono ?_
      rintro e wy ⟨rfl,hby⟩
      have HBy:=Lib.hid hby
      clear hby cq
      obtain⟨hOj,_,_⟩:=HSome.out i HFq2.out
      have HOj2:=Lib.hid hOj
      have HMy:=Lib.hid (HMz.out.below HBy.out)
      have HOy:=Lib.hid ((HBy.out.block _ (lt_of_block HOz.out)).trans HOz.out)
      have HRy:=Lib.hid (ownsRow_below HRz.out HBy.out)
      have HKy:=Lib.hid (hk_trans HKz.out (keeps_of_below HBy.out))
      have HBwy:=Lib.hid ((HBr.out.trans (HBrz.out.mono HBr.out.size)).trans (HBy.out.mono (HBr.out.trans (HBrz.out.mono HBr.out.size)).size))
      have hzy:w1.heap.size < wy.heap.size:=lt_of_block HOy.out
      have c0:=cell_of_one HOy.out
      have hI1:(Value.slice ao' j co').ownBlock≠some w1.heap.size:=fun h=>(ownsRow_ne HRy.out HOy.out (by decide)) h.symm
      have HI1:=Lib.hid hI1
      have hjr:j≤1073741824:=by omega
      have hw1:w.heap.size≤w1.heap.size:=HB1.out.size
      clear hOj HCF hI1
      go_wp2_with (at_builtin;go_must (refine own_app elemI _ rfl (.tmp 34) (.tmp 36) rfl w1.heap.size (.slice ao' j co') j ((natI O).map (Value.int .i64)) rfl HRy.out [.int .i64 i] rfl (by simp[Value.oneCell']) _ 1 rfl (by rfl) hjr (by omega) ?_))
      intro v' w3 ho3 hg3
      have HG3:=Lib.hid hg3
      have h3:w3.heap[w1.heap.size]? = some (.cells #[.slice ao' j co'] 40 (0,0)):=by
       rw[hg3.block _ (by simp;omega) (fun e=>HI1.out e.symm),Below.heap_alloc _ _ _ hzy]
       exact HOy.out
      have HM3:=Lib.hid ((HMy.out.alloc (.cells #[.int .i64 i] 3)).kept hg3 (fun h=>by have:=(HRy.out.lt _ h.symm).1;omega))
      have HM4:=Lib.hid (HM3.out.setCell (a:=⟨w1.heap.size,0,none⟩) (by simp;omega) v')
      have HK3:Hid (∀ a u,w1.cell? a=some u→w3.cell? a=some u):=fun a u h=>own_far HRy.out hg3 ((keeps_of_below ((Below.refl _ _).alloc (Nat.le_refl _) _)) _ _ (HKy.out _ _ h)) (Or.inl (World.block_lt_of_cell? _ _ h))
      have HB3:Hid (Below w.heap.size w w3):=Below.grown (HBwy.out.alloc (by omega) _) hg3 (by simp;omega) (fun k hk=>by have:=(HRy.out.lt k hk).1;omega)
      have hz3:w1.heap.size < w3.heap.size:=lt_of_block h3
      have c3:=cell_of_one h3
      have f3:=free_of_one h3
      have HH3:=Lib.hid h3
      have HR3:=Lib.hid ho3
      obtain⟨av3,cv3,hv3,_⟩:=slice_of_own ho3 (by omega)
      subst hv3
      have his:(ordF V n O (.int .i64 i)).isSome=true:=by rw[HVi.out];rfl
      have HIs:=Lib.hid his
      clear hg3 h3 ho3 his c0 HMz HOz HRz HIz HKz
      go_wp2_with (at_delete;go_must (refine wp_mapV_del _ rfl _ _ 161 3 40 rfl keyed_int (by kernel_rfl) rfl HM4.out _ _ rfl (key_int hib) HIs.out ?_);intro w5 hM5 hg5;have HM5:=Lib.hid hM5;have HG5:=Lib.hid hg5;clear hM5 hg5)
      go_roundg g
      case measure=>omega
      case rel =>
       refine⟨j+1,.slice av3 (j+1) cv3,by omega,?_,?_,?_,?_,?_,?_⟩
       ·show _=_
        rw[HOj.out,HOj2.out,List.length_append,HLj.out]
        rfl
       ·show MapV _ _ _ _ _ _
        rw[HOj.out,HOj2.out]
        exact HM5.out.congr (ordF_del V n O i)
       ·show _=_
        rw[HG5.out.block _ (by simp;omega) (fun e=>by injection e with e;omega)]
        exact one_setCell HH3.out
       ·show World.ownsRow _ _ _ _ _ _ _
        rw[HOj.out,HOj2.out]
        have h6:=ownsRow_store HR3.out HH3.out (by decide) 0 (.slice av3 (j+1) cv3)
        have h7:=ownsRow_grown h6 HG5.out (fun k hk e=>by
         have h1:=(HR3.out.lt k hk).1
         injection e with e
         omega)
        simpa [natI] using h7
       ·intro a u h
        have h8:=World.block_lt_of_cell? _ _ h
        refine HM4.out.cells HG5.out _ _ ?_
        rw[World.cell?_setCell_other _ _ _ _ (by rintro rfl;simp at h8)]
        exact HK3.out _ _ h
       ·exact Below.grown (HB3.out.setCell (by simp;omega) _) HG5.out (by simp;omega) (fun k hk=>by cases hk;omega)
    ·obtain rfl:q=L.length:=by omega
     have HPe:=Lib.hid (HP0.out wz (HNone.out (HFn.out HF.out)) (HBr.out.trans (HBrz.out.mono HBr.out.size)))
     go_wp2_with fail
     exact HPe.out
end Go.Proofs.YtebneadheaefdaaGreatDoor
