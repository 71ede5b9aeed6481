/- Rows of expressions; slices.Grow and slices.Concat of expressions. -/
import Derived.Test.YtcplmcjbkpmhdaaGreatDoorKJ
import Derived.Lib.AppendZeros
set_option linter.unusedSimpArgs false
set_option linter.unusedVariables false
set_option linter.unnecessarySimpa false
namespace Go.Proofs.YtcplmcjbkpmhdaaGreatDoor
open Go.RowKit
def ExRow (w:World) (l:List Ex) (xs:List Value):Prop:=xs.length=l.length * 4∧∀ i (h:i < l.length),∃ a cap,xs[i * 4]? = some (.int .i64 (l[i]'h).op)∧xs[i * 4+1]? = some (.int .i64 (l[i]'h).n)∧xs[i * 4+2]? = some (.string (l[i]'h).name)∧xs[i * 4+3]? = some (.slice a (l[i]'h).args.length cap)∧ExIn w (l[i]'h) a cap
theorem ExRow.nil (w:World):ExRow w [] []:=⟨rfl,fun i h=>by simp at h⟩
theorem ExRow.keep {w w':World} (hk:∀ a v,w.cell? a=some v→w'.cell? a=some v) {l:List Ex} {xs:List Value} (h:ExRow w l xs):ExRow w' l xs :=
 ⟨h.1,fun i hi=>by obtain⟨a,cap,h0,h1,h2,h3,h4⟩:=h.2 i hi;exact⟨a,cap,h0,h1,h2,h3,h4.keep hk⟩⟩
theorem ExRow.append {w:World} {l l':List Ex} {xs ys:List Value} (h:ExRow w l xs) (h':ExRow w l' ys):ExRow w (l++l') (xs++ys):=by
 refine⟨by rw[List.length_append,List.length_append,h.1,h'.1,Nat.add_mul],fun i hi=>?_⟩
 by_cases hl:i < l.length
 ·obtain⟨a,cap,h0,h1,h2,h3,h4⟩:=h.2 i hl
  have hx:=h.1
  rw[List.getElem_append_left hl]
  refine⟨a,cap,?_,?_,?_,?_,h4⟩
  ·rw[List.getElem?_append_left (by omega)];exact h0
  ·rw[List.getElem?_append_left (by omega)];exact h1
  ·rw[List.getElem?_append_left (by omega)];exact h2
  ·rw[List.getElem?_append_left (by omega)];exact h3
 ·have hi':i - l.length < l'.length:=by rw[List.length_append] at hi;omega
  obtain⟨a,cap,h0,h1,h2,h3,h4⟩:=h'.2 (i - l.length) hi'
  have hx:=h.1
  rw[List.getElem_append_right (by omega)]
  refine⟨a,cap,?_,?_,?_,?_,h4⟩
  ·rw[List.getElem?_append_right (by omega),show i * 4 - xs.length=(i - l.length) * 4 from by omega];exact h0
  ·rw[List.getElem?_append_right (by omega),show i * 4+1 - xs.length=(i - l.length) * 4+1 from by omega];exact h1
  ·rw[List.getElem?_append_right (by omega),show i * 4+2 - xs.length=(i - l.length) * 4+2 from by omega];exact h2
  ·rw[List.getElem?_append_right (by omega),show i * 4+3 - xs.length=(i - l.length) * 4+3 from by omega];exact h3
theorem ExsIn.row {w:World} {l:List Ex} {b off cap:Nat} (h:ExsIn w l (some ⟨b,off,none⟩) cap):∃ xs,ExRow w l xs∧(∀ j u,xs[j]? = some u→w.cell? ⟨b,off+j,none⟩=some u)∧∀ u,u∈xs→u.oneCell'=true:=by
 have hc:∀ j,j < l.length * 4→∃ u,w.cell? ⟨b,off+j,none⟩=some u∧u.oneCell'=true:=by
  intro j hj
  have hi:j / 4 < l.length:=by omega
  obtain⟨a',cap',h0,h1,h2,h3,_⟩:=h.get rfl hi
  have hm:j % 4=0∨j % 4=1∨j % 4=2∨j % 4=3:=by omega
  rcases hm with hm | hm | hm | hm
  ·exact⟨_,by rw[show off+j=off+j / 4 * 4 from by omega];exact h0,rfl⟩
  ·exact⟨_,by rw[show off+j=off+j / 4 * 4+1 from by omega];exact h1,rfl⟩
  ·exact⟨_,by rw[show off+j=off+j / 4 * 4+2 from by omega];exact h2,rfl⟩
  ·exact⟨_,by rw[show off+j=off+j / 4 * 4+3 from by omega];exact h3,rfl⟩
 have hg:∀ j (u:Value),((List.range (l.length * 4)).map fun j=>(w.cell? ⟨b,off+j,none⟩).getD undef)[j]? = some u↔j < l.length * 4∧w.cell? ⟨b,off+j,none⟩=some u:=by
  intro j u
  rw[List.getElem?_map]
  by_cases hj:j < l.length * 4
  ·rw[List.getElem?_range hj]
   obtain⟨v,hv,_⟩:=hc j hj
   simp[hv,hj]
  ·rw[List.getElem?_eq_none (by simp;omega)]
   simp[hj]
 refine⟨(List.range (l.length * 4)).map fun j=>(w.cell? ⟨b,off+j,none⟩).getD undef,⟨by simp,fun i hi=>?_⟩,fun j u hu=>((hg j u).1 hu).2,fun u hu=>?_⟩
 ·obtain⟨a',cap',h0,h1,h2,h3,h4⟩:=h.get rfl hi
  exact⟨a',cap',(hg _ _).2 ⟨by omega,h0⟩,(hg _ _).2 ⟨by omega,by rw[← Nat.add_assoc];exact h1⟩,(hg _ _).2 ⟨by omega,by rw[← Nat.add_assoc];exact h2⟩,(hg _ _).2 ⟨by omega,by rw[← Nat.add_assoc];exact h3⟩,h4⟩
 ·obtain⟨j,hj,rfl⟩:=List.mem_map.1 hu
  obtain⟨v,hv,h1⟩:=hc j (by simpa using hj)
  rw[hv];exact h1
theorem exs_of_own {w:World} {base:Nat} {e:TypeId} {v:Value} {l:List Ex} {xs:List Value} (h:w.ownsRow base e 4 v l.length xs) (hr:ExRow w l xs) (hn:l.length≤1073741824):∃ a cap,v=.slice a l.length cap∧ExsIn w l a cap:=by
 obtain⟨a,cap,hv,hs⟩:=slice_of_own h hn
 refine⟨a,cap,hv,hs.mono fun i b o hi hq=>?_⟩
 obtain⟨a',cap',h0,h1,h2,h3,h4⟩:=hr.2 i hi
 refine⟨l[i],List.getElem?_eq_getElem hi,?_⟩
 rw[ExAt_iff]
 exact⟨a',cap',(hq 0 (by omega)).trans h0,(hq 1 (by omega)).trans h1,(hq 2 (by omega)).trans h2,(hq 3 (by omega)).trans h3,h4⟩
theorem elemE:Elem Tryz.prog 23 55 4:=Elem.of Tryz.underlying23 (by kernel_rfl) (z:=.agg #[.int .i64 0,.int .i64 0,.string .empty,.slice none 0 0]) (bytes:=56) rfl (by decide) (by decide)
theorem own_row {P:Program} {ops:Array Oper} {rest:List Oper} {o:Oper} {a:Act} {Q:Exit→Act→World→Prop} {t e:TypeId} {size:Nat} (he:Elem P t e size) (w:World) (hgd:o.guard=none) (s x:Operand)
  (ho:o.op=.call { callee:=.builtin .append,args:=#[s,x],argTypes:=#[t,t] })
  (base:Nat) (v:Value) (n:Nat) (xs:List Value) (hs:a.eval s=v) (hown:w.ownsRow base e size v n xs)
  (news:List Value) (b off m c:Nat) (hl:news.length=m * size) (hnews:∀ j u,news[j]? = some u→w.cell? ⟨b,off+j,none⟩=some u) (h1:∀ u∈news,u.oneCell'=true) (hx:a.eval x=.slice (some ⟨b,off,none⟩) m c) (hn:n+m≤4294967296) (hbase:base≤w.heap.size)
  (h:∀ v' w',w'.ownsRow base e size v' (n+m) (xs++news)→w.grownBy w' v.ownBlock→wpList P ops Q rest (a.put o.dst v') w'):wpList P ops Q (o::rest) a w:=by
 obtain⟨ht,i,z,bytes,hi,hz,hsz,hby,hzs,h0,hb⟩:=he
 refine wpList_append_own w hgd s x t ho base e i z size bytes ht hi hz hsz hby hzs h0 v n xs hs hown ⟨b,off,none⟩ m c news hx hl ?_ h1 (by unfold maxLen;omega) ?_ hbase (fun v' w' h2 h3 _=>h v' w' h2 h3)
 ·intro j u hj
  have:((⟨b,off,none⟩:Addr).add j)=⟨b,off+j,none⟩:=by
   unfold Addr.add;split<;>simp_all
  rw[this];exact hnews j u hj
 ·calc (n+m) * bytes≤4294967296 * 1024:=Nat.mul_le_mul (by omega) hb
   _≤_:=by decide
theorem run_append_none' {P:Program} (w:World) (base:Nat) (t ty e:TypeId) (i:TypeInfo) (size:Nat) (ht:P.underlying t=some (.slice e)) (hi:P.info? e=some i)
  (v:Value) (n c:Nat) (xs:List Value) (hown:w.ownsRow base e size v n xs) :
  (Builtin.append_ #[t,t] ty #[v,.slice none 0 c]).run P w=.ok v w:=by
 rcases hown.2 with ⟨rfl,rfl⟩ | ⟨g,cap,cur,rfl,_,_,hnc,_⟩
 ·simp[Builtin.append_,run_underlying ht,sizeOf,typeInfo,hi,Builtin.lenOf,Builtin.firstCells]
 ·simp[Builtin.append_,run_underlying ht,sizeOf,typeInfo,hi,Builtin.lenOf,Builtin.firstCells,hnc,storeCells]
theorem own_exs {P:Program} {ops:Array Oper} {rest:List Oper} {o:Oper} {a:Act} {Q:Exit→Act→World→Prop} {t e:TypeId} (he:Elem P t e 4) (w:World) (hgd:o.guard=none) (s x:Operand)
  (ho:o.op=.call { callee:=.builtin .append,args:=#[s,x],argTypes:=#[t,t] })
  (base:Nat) (v:Value) (n:Nat) (xs:List Value) (hs:a.eval s=v) (hown:w.ownsRow base e 4 v n xs)
  (l:List Ex) (ad:Option Addr) (c:Nat) (w0:World) (hE:ExsIn w0 l ad c) (hk:∀ a v,w0.cell? a=some v→w.cell? a=some v) (hx:a.eval x=.slice ad l.length c) (hn:n+l.length≤4294967296) (hbase:base≤w.heap.size)
  (h:∀ v' w' news,ExRow w0 l news→w'.ownsRow base e 4 v' (n+l.length) (xs++news)→w.grownBy w' v.ownBlock→wpList P ops Q rest (a.put o.dst v') w'):wpList P ops Q (o::rest) a w:=by
 rcases hE.2.2 with h0 | ⟨b,off,rfl,_⟩
 ·obtain rfl:l=[]:=List.eq_nil_of_length_eq_zero h0
  cases ad with
  | none =>
   obtain⟨ht,i,z,bytes,hi,hz,hsz,hby,hzs,h0,hb⟩:=he
   refine Lib.wpList_append_run w hgd s x t t ho v (.slice none 0 c) hs hx v w (run_append_none' w base t o.type e i 4 ht hi v n c xs hown) ?_
   exact h v w [] (ExRow.nil _) (by simpa using hown) (World.grownBy.refl _ _)
  | some ad =>
   obtain⟨ht,i,z,bytes,hi,hz,hsz,hby,hzs,h0,hb⟩:=he
   refine wpList_append_own w hgd s x t ho base e i z 4 bytes ht hi hz hsz hby hzs h0 v n xs hs hown ad 0 c [] hx rfl (fun j u hj=>by simp at hj) (fun u hu=>by cases hu) (by unfold maxLen;simp at hn;omega) ?_ hbase (fun v' w' h2 h3 _=>h v' w' [] (ExRow.nil _) h2 h3)
   calc (n+0) * bytes≤4294967296 * 1024:=Nat.mul_le_mul (by simp at hn;omega) hb
    _≤_:=by decide
 ·obtain⟨news,h1,h2,h3⟩:=hE.row
  exact own_row he w hgd s x ho base v n xs hs hown news b off l.length c h1.1 (fun j u hu=>hk _ _ (h2 j u hu)) h3 hx hn hbase (fun v' w' h4 h5=>h v' w' news h1 h4 h5)
def GrowPost (w:World) (e:Ending) (w':World):Prop:=∃ v,e=.returned v∧w'.ownsRow w.heap.size 55 4 v 0 []∧Below w.heap.size w w'
set_option maxHeartbeats 2000000 in
theorem grow_any (n:Nat) (hn:n≤4294967296) (w:World):Calls Tryz.prog 210 #[.slice none 0 0,.int .i64 n] w fun e w'=>GrowPost w e w':=by
 by_cases h0:n=0
 ·subst h0
  go_enter Tryz.func210, Tryz.ntmps210
  go_wp2_with fail
  go_ret
  exact⟨_,rfl,World.ownsRow_nil _ _ _ _,Below.refl _ _⟩
 ·obtain⟨i,h1,h2,h3,h4⟩:=info_parts (show (Tryz.prog.info? 55).map (fun i=>(i.zero,i.size,i.bytes))=some (some (.agg #[.int .i64 0,.int .i64 0,.string .empty,.slice none 0 0]),4,56) from by kernel_rfl)
  have hpos:1≤n:=by omega
  have hge:=grownCap_ge w n 0 55
  have hle:=grownCap_le_maxLen w n 0 55 (by unfold maxLen;omega)
  have hrun:∀ ty,(Builtin.append_ #[23, 3] ty #[.slice none 0 0,.int .i64 n]).run Tryz.prog w=_:=fun ty=>Lib.run_append_nil_zeros (P:=Tryz.prog) w 23 3 ty 55 i _ .i64 .i64 Tryz.underlying23 Tryz.underlying3 h1 h2 n (by omega) (by omega) (by omega) (by rw[h4];omega)
  have HOwn:Hid ((w.drew.alloc (.cells (Builtin.zeroCells (Value.agg #[.int .i64 0,.int .i64 0,.string .empty,.slice none 0 0]).cells n++Builtin.zeroCells (Value.agg #[.int .i64 0,.int .i64 0,.string .empty,.slice none 0 0]).cells (grownCap w n 0 55 - n)) 55)).ownsRow w.heap.size 55 4 (.slice (some ⟨w.heap.size,0,none⟩) 0 (grownCap w n 0 55)) 0 []):=by
   refine World.ownsRow_made w.drew _ _ (Nat.le_refl _) hle ?_
   rw[Array.size_append,size_zeroCells,size_zeroCells]
   show n * 4+(grownCap w n 0 55 - n) * 4=_
   omega
  unfold maxLen at hle
  generalize grownCap w n 0 55=gc at hge hle hrun HOwn
  have Hrun:=Lib.hid hrun
  clear hrun h0 h1 h2 h3 h4
  go_enter Tryz.func210, Tryz.ntmps210
  go_wp2_with (at_builtin;refine Lib.wpList_append_run _ rfl _ _ _ _ rfl _ _ rfl rfl _ _ (Hrun.out _) ?_)
  go_ret
  exact⟨_,rfl,HOwn.out,bel⟩
def ConcPost (w:World) (l:List Ex) (e:Ending) (w':World):Prop:=∃ a cap,e=.returned (.slice a l.length cap)∧ExsIn w' l a cap∧Below w.heap.size w w'
def ConcRel (w:World) (l:List Ex) (v:Value) (wr:World):Prop:=∃ xs,wr.ownsRow w.heap.size 55 4 v l.length xs∧ExRow w l xs∧Below w.heap.size w wr
theorem ConcRel.step {w wr w':World} {l l':List Ex} {v v':Value} {n:Nat} {xs news:List Value} (hl:n=l.length) (hown:wr.ownsRow w.heap.size 55 4 v n xs) (hr:ExRow w l xs) (hb:Below w.heap.size w wr) (hn:ExRow w l' news)
  (h1:w'.ownsRow w.heap.size 55 4 v' (n+l'.length) (xs++news)) (h2:wr.grownBy w' v.ownBlock):ConcRel w (l++l') v' w':=by
 subst hl
 exact⟨xs++news,by rw[List.length_append];exact h1,ExRow.append hr hn,hb.grown h2 hb.size (fun k hk=>(hown.lt k hk).1)⟩
set_option maxRecDepth 100000 in
set_option maxHeartbeats 2000000 in
theorem concat_any (h s:List Ex) (ah ao:Option Addr) (ch co bo:Nat) (w:World) (c0:w.cell? ⟨bo,0,none⟩=some (.slice ah h.length ch)) (c1:w.cell? ⟨bo,1,none⟩=some (.slice ao s.length co)) (hH:ExsIn w h ah ch) (hS:ExsIn w s ao co) (hln:(h++s).length≤1073741824) :
  Calls Tryz.prog 160 #[.slice (some ⟨bo,0,none⟩) 2 2] w fun e w'=>ConcPost w (h++s) e w':=by
 have hlh:=hH.2.1
 have hls:=hS.2.1
 have C0:=Lib.hid c0
 have C1:=Lib.hid c1
 have HH:=Lib.hid hH
 have HS:=Lib.hid hS
 have HLn:=Lib.hid hln
 clear hH hS hln
 go_enter Tryz.func160, Tryz.ntmps160
 go_wp2_with fail
 go_loop [11,3,5] (fun i n _=>(i=.int .i64 0∧n=.int .i64 0)∨(i=.int .i64 1∧n=.int .i64 h.length)∨(i=.int .i64 2∧n=.int .i64 ((h.length+s.length:Nat):Int))) (fun i _ _=>2 - (intOf i).toNat)
 case atStart=>exact Or.inl ⟨rfl,rfl⟩
 case round =>
  rcases hrel with ⟨rfl,rfl⟩ | ⟨rfl,rfl⟩ | ⟨rfl,rfl⟩
  ·go_wp2_with fail
   go_round
   case rel=>exact Or.inr (Or.inl ⟨by go_num,by go_num⟩)
   case measure=>simp[intOf]
  ·go_wp2_with fail
   go_round
   case rel=>exact Or.inr (Or.inr ⟨by go_num,by go_num⟩)
   case measure=>simp[intOf]
  ·have HGr:=Lib.hid (grow_any (h.length+s.length) (by omega) w)
   clear c0 c1
   go_wp2_with fail
   refine HGr.out.mono ?_
   rintro e w1 ⟨v,rfl,hown,hb⟩
   have HR:Hid (ConcRel w [] v w1):=⟨[],hown,ExRow.nil _,hb⟩
   clear hown hb
   go_wp2_with fail
   go_loopw [27,6,8] (fun i v _ wr=>(i=.int .i64 0∧ConcRel w [] v wr)∨(i=.int .i64 1∧ConcRel w h v wr)∨(i=.int .i64 2∧ConcRel w (h++s) v wr)) (fun i _ _ _=>2 - (intOf i).toNat)
   case atStart=>exact Or.inl ⟨rfl,HR.out⟩
   case round =>
    rcases hrel with ⟨rfl,hR⟩ | ⟨rfl,hR⟩ | ⟨rfl,hR⟩
    ·obtain⟨xs,hown,hr,hb⟩:=hR
     have c0:=(keeps_of_below hb) _ _ C0.out
     have hzs:=hb.size
     have HX:=Lib.hid (⟨hr,hb⟩:_∧_)
     have HO:=Lib.hid hown
     have HK:=Lib.hid (keeps_of_below hb)
     clear hr hb
     obtain⟨av,cv,hv,_⟩:=slice_of_own hown (by first | (simp;done) | omega)
     subst hv
     clear hown
     go_wp2_with (at_builtin;refine own_exs elemE _ rfl (.tmp 31) (.tmp 32) rfl w.heap.size _ _ xs rfl HO.out h ah ch w HH.out HK.out rfl (by first | (simp only[List.length_nil];omega) | omega) hzs ?_)
     intro v' w' news hnews hown' hgr
     have hS':Hid (ConcRel w ([]++h) v' w'):=ConcRel.step rfl HO.out HX.out.1 HX.out.2 hnews (by simpa using hown') hgr
     clear hown' hgr hnews
     go_wp2_with fail
     go_roundw
     case rel=>exact Or.inr (Or.inl ⟨by go_num,hS'.out⟩)
     case measure=>simp[intOf]
    ·obtain⟨xs,hown,hr,hb⟩:=hR
     have c0:=(keeps_of_below hb) _ _ C1.out
     have hzs:=hb.size
     have HX:=Lib.hid (⟨hr,hb⟩:_∧_)
     have HO:=Lib.hid hown
     have HK:=Lib.hid (keeps_of_below hb)
     clear hr hb
     obtain⟨av,cv,hv,_⟩:=slice_of_own hown (by first | (simp;done) | omega)
     subst hv
     clear hown
     go_wp2_with (at_builtin;refine own_exs elemE _ rfl (.tmp 31) (.tmp 32) rfl w.heap.size _ _ xs rfl HO.out s ao co w HS.out HK.out rfl (by first | (simp only[List.length_nil];omega) | omega) hzs ?_)
     intro v' w' news hnews hown' hgr
     have hS':Hid (ConcRel w (h++s) v' w'):=ConcRel.step rfl HO.out HX.out.1 HX.out.2 hnews hown' hgr
     clear hown' hgr hnews
     go_wp2_with fail
     go_roundw
     case rel=>exact Or.inr (Or.inr ⟨by go_num,hS'.out⟩)
     case measure=>simp[intOf]
    ·obtain⟨xs,hown,hr,hb⟩:=hR
     obtain⟨a,cap,rfl,hE⟩:=exs_of_own hown (hr.keep (keeps_of_below hb)) HLn.out
     have HE:=Lib.hid (⟨hE,hb⟩:_∧_)
     clear hown hr hE hb
     go_wp2_with fail
     go_ret
     exact⟨a,cap,rfl,HE.out⟩
end Go.Proofs.YtcplmcjbkpmhdaaGreatDoor
namespace Go.Proofs.YtcplmcjbkpmhdaaGreatDoor
open Go.RowKit
theorem boxW {w W:World} (o:Obj) (hW:Below (w.heap.size+1) (w.alloc o) W):Below w.heap.size w W:=((Below.refl _ _).alloc (Nat.le_refl _) _).trans (hW.mono (by simp))
set_option maxHeartbeats 1000000 in
theorem exprs1_any (l:List VarD) (a:Option Addr) (cap:Nat) (s:ByteArray) (c:Nat) (w:World) (hc:w.cell? ⟨c,0,none⟩=some (.slice a l.length cap)) (hE:VarsIn w l a cap) :
  Calls Tryz.prog 162 #[.string s,.pointer (some ⟨c,0,none⟩)] w fun e w'=>e=.returned (.bool (decide (findV l s 0 < 0)))∧Below w.heap.size w w':=by
 have HI:=Lib.hid (index_any l a cap s w hE)
 clear hE
 go_enter Tryz.func162, Tryz.ntmps162
 go_wp2_with (go_at_call 157;(with_reducible refine HI.out.mono ?_);rintro e w1 ⟨rfl,hb1⟩)
 go_ret
 exact⟨rfl,by assumption⟩
set_option maxHeartbeats 1000000 in
theorem dists1_any (v:Int) (aw:Option Addr) (n cw:Nat) (d:Int) (c:Nat) (w:World) (hc:w.cell? ⟨c,0,none⟩=some (.int .i64 d)) :
  Calls Tryz.prog 165 #[.agg #[.int .i64 v,.slice aw n cw],.pointer (some ⟨c,0,none⟩)] w fun e w'=>e=.returned (.bool (v == d))∧Below w.heap.size w w':=by
 have hlt:=World.block_lt_of_cell? _ _ hc
 have hcA:∀ o,(w.alloc o).cell? ⟨c,0,none⟩=_:=fun o=>(World.cell?_alloc_lt _ _ _ hlt).trans hc
 go_enter Tryz.func165, Tryz.ntmps165
 go_wp2_with fail
 go_ret
 exact⟨rfl,bel⟩
set_option maxHeartbeats 2000000 in
theorem weights1_any (v:WeightD) (w:World) :
  Calls Tryz.prog 214 #[weightVal v] w fun e w'=>e=.returned (.bool (!weightB v))∧Below w.heap.size w w':=by
 obtain⟨lo,hi,wt,each⟩:=v
 unfold weightVal
 have HB:=Lib.hid (weightB_iff ⟨lo,hi,wt,each⟩)
 by_cases hb:0≤lo∧lo≤hi∧hi≤65535∧0≤wt∧wt≤1000
 ·have HY:Hid (weightB ⟨lo,hi,wt,each⟩=true):=HB.out.2 hb
  obtain⟨h1,h2,h3,h4,h5⟩:=hb
  clear HB
  go_enter Tryz.func214, Tryz.ntmps214
  go_wp2_with fail
  all_goals first
   | (exfalso;omega)
   | (go_ret;refine⟨?_,bel⟩;rw[HY.out];first | rfl | (simp;omega))
 ·have HY:Hid (weightB ⟨lo,hi,wt,each⟩=false):=by
   show _=_
   cases h:weightB ⟨lo,hi,wt,each⟩
   ·rfl
   ·exact absurd (HB.out.1 h) hb
  clear HB
  go_enter Tryz.func214, Tryz.ntmps214
  go_wp2_with fail
  all_goals first
   | (go_ret;refine⟨?_,bel⟩;rw[HY.out];first | rfl | (simp;done) | (simp;omega))
   | (exfalso;omega)
set_option maxHeartbeats 2000000 in
theorem random_any (p:ProbD) (x:ProbA) (i:Int) (w:World) (hE:ProbIn w p x) :
  Calls Tryz.prog 163 #[probVal p x,.int .i64 i] w fun e w'=>e=.returned (.bool (pB (RandV p.vars i)))∧Below w.heap.size w w':=by
 have hlen:=hE.vars.2.1
 have HA:=Lib.hid hE.vars.addr
 have HV:=Lib.hid hE.vars
 clear hE
 rw[probVal_eq]
 by_cases hneg:i < 0
 ·have HN:=Lib.hid (pB_false (randV_neg (l:=p.vars) hneg))
  have hd:decide (0≤i)=false:=by simpa using hneg
  go_enter Tryz.func163, Tryz.ntmps163
  go_wp2_with fail
  go_ret
  exact⟨by rw[HN.out];first | rfl | (simp;done) | (simp;omega),bel⟩
 ·by_cases hbig:(p.vars.length:Int)≤i
  ·have HN:=Lib.hid (pB_false (randV_big hbig))
   have hd0:decide (0≤i)=true:=by simpa using hneg
   have hd:decide (i < (p.vars.length:Int))=false:=by simpa using hbig
   go_enter Tryz.func163, Tryz.ntmps163
   go_wp2_with fail
   go_ret
   exact⟨by rw[HN.out];first | rfl | (simp;done) | (simp;omega),bel⟩
  ·obtain⟨n,rfl⟩:=Int.eq_ofNat_of_zero_le (show 0≤i by omega)
   have hn:n < p.vars.length:=by omega
   have HM:=Lib.hid (randV_of hn)
   obtain⟨bv,ov,hav⟩:=HA.out.resolve_left (by omega)
   obtain⟨av,cv,ah,ch,ao,co,ad,cd,ag,cg⟩:=x
   simp only at hav HV⊢
   subst hav
   obtain⟨_,_,m0,_,_⟩:=HV.out.get rfl hn
   have hmA:∀ o,(w.alloc o).cell? ⟨bv,ov+n * 4+2,none⟩=some (.int .i64 (p.vars[n]'hn).mode):=fun o=>(World.cell?_alloc_lt _ _ _ (World.block_lt_of_cell? _ _ m0)).trans m0
   generalize (p.vars[n]'hn).mode=mode at m0 hmA HM
   by_cases hm:mode=0
   ·have HN:Hid (pB (RandV p.vars n)=false):=pB_false (fun h=>HM.out.1 h hm)
    subst hm
    go_enter Tryz.func163, Tryz.ntmps163
    go_wp2_with fail
    go_ret
    exact⟨by rw[HN.out];first | rfl | (simp;done) | (simp;omega),bel⟩
   ·have HN:Hid (pB (RandV p.vars n)=true):=pB_true (HM.out.2 hm)
    have hm':(mode != 0)=true:=by simpa using hm
    clear hm
    go_enter Tryz.func163, Tryz.ntmps163
    go_wp2_with fail
    go_ret
    exact⟨by rw[HN.out];first | rfl | (simp;done) | (simp;omega),bel⟩
set_option maxHeartbeats 2000000 in
theorem weights_any (l:List WeightD) (a:Option Addr) (cap:Nat) (w:World) (hE:WeightsIn w l a cap) :
  Calls Tryz.prog 166 #[.slice a l.length cap] w fun e w'=>e=.returned (.bool (l.all weightB))∧Below w.heap.size w w':=by
 have HC:=Lib.hid (containsFunc_weights (fun v=>!weightB v) l a cap w hE (fun v _ w' _=>weights1_any v w'))
 have HR:Hid ((!l.any (fun v=>!weightB v))=l.all weightB):=by
  show _=_
  rw[List.all_eq_not_any_not]
 clear hE
 generalize l.any (fun v=>!weightB v)=r at HC HR
 go_enter Tryz.func166, Tryz.ntmps166
 go_wp2_with fail
 refine HC.out.mono ?_
 rintro e w1 ⟨rfl,hb⟩
 have HB1:=Lib.hid hb
 clear hb
 cases r
 all_goals
  go_wp2_with fail
  go_ret
  exact⟨by rw[← HR.out];rfl,HB1.out⟩
theorem arr_names (e:Ex):(namesS [3,24] e).isEmpty=!(e.nodes.any arrN):=by
 have h:=addName_all [3,24] (fun _=>false) e.nodes []
 have h1:(namesS [3,24] e).isEmpty=(namesS [3,24] e).all (fun _=>false):=by
  cases namesS [3,24] e<;>rfl
 rw[h1]
 unfold namesS
 rw[h]
 simp only[List.all_nil,Bool.true_and,Bool.or_false]
 rw[List.not_any_eq_all_not]
 congr 1
 funext x
 unfold arrN
 simp[List.contains,List.elem]
 cases h3:(x.op == 3)<;>cases h24:(x.op == 24)<;>simp_all
theorem for_names (l:List VarD) (e:Ex):(namesS [2] e).any (fun s=>decide (findV l s 0 < 0))=e.nodes.any (forN l):=by
 have h:=addName_all [2] (fun s=>!decide (findV l s 0 < 0)) e.nodes []
 have h1:∀ (L:List ByteArray) (p:ByteArray→Bool),L.any p=!(L.all fun s=>!p s):=fun L p=>by
  rw[List.all_eq_not_any_not];simp
 have h2:∀ (L:List Ex) (p:Ex→Bool),L.any p=!(L.all fun s=>!p s):=fun L p=>by
  rw[List.all_eq_not_any_not];simp
 rw[h1,h2]
 unfold namesS
 rw[h]
 simp only[List.all_nil,Bool.true_and]
 congr 2
 funext x
 unfold forN
 have hc:([2]:List Int).contains x.op=(x.op == 2):=by simp[List.contains,List.elem];cases (x.op == 2)<;>rfl
 rw[hc]
 cases (x.op == 2)<;>simp
end Go.Proofs.YtcplmcjbkpmhdaaGreatDoor
namespace Go.Proofs.YtcplmcjbkpmhdaaGreatDoor
open Go.RowKit
theorem frW {P:Program} {f:FuncId} {args:Array Value} {w:World} {Q:Ending→World→Prop} {B:Nat} {W0:World} (h:Calls P f args w fun e w'=>Q e w'∧Below w.heap.size w w') (hW:Below B W0 w) (hB:B≤w.heap.size) :
  Calls P f args w fun e w'=>Q e w'∧(∀ b o,b < w.heap.size→w'.cell? ⟨b,o,none⟩=w.cell? ⟨b,o,none⟩)∧(∀ b o,b < w.heap.size→w'.frozen? ⟨b,o,none⟩=w.frozen? ⟨b,o,none⟩)∧w.heap.size≤w'.heap.size∧Below B W0 w' :=
 h.mono fun _ _ ⟨hq,hb⟩=>⟨hq,(bcell hb).1,(bcell hb).2,hb.size,hW.trans (hb.mono hB)⟩
def StrsRet (l:List ByteArray) (e:Ending) (w':World):Prop:=∃ a cap,e=.returned (.slice a l.length cap)∧StrsIn w' l a cap
set_option maxRecDepth 100000 in
set_option maxHeartbeats 8000000 in
theorem exprs_any (p:ProbD) (x:ProbA) (w:World) (hE:ProbIn w p x) (hs:ProbSmall p) (hG:Glob w) :
  Calls Tryz.prog 110 #[probVal p x] w fun e w'=>ErrIff (∀ i (h:i < (p.hard++p.soft).length),ExprOk p.vars ((p.hard++p.soft)[i]'h)) e∧Below w.heap.size w w':=by
 rw[probVal_eq]
 obtain⟨vs,hard,soft,ds,gs⟩:=p
 obtain⟨av,cv,ah,ch,ao,co,ad,cd,ag,cg⟩:=x
 obtain⟨hV,hH,hS,_,_⟩:=hE
 obtain⟨sH,sS,hT⟩:=hs
 simp only at hV hH hS sH sS hT⊢
 have hsm:ExsSmall (hard++soft):=fun e he=>by
  rcases List.mem_append.1 he with h | h
  ·exact sH e h
  ·exact sS e h
 have hB:Below w.heap.size w ((w.alloc (.cells #[.slice av vs.length cv,.slice ah hard.length ch,.slice ao soft.length co,.slice ad ds.length cd,.slice ag gs.length cg] 27)).alloc (.cells #[.slice ah hard.length ch,.slice ao soft.length co] 23)):=bel
 have HC:=Lib.hid (concat_any hard soft ah ao ch co (w.heap.size+1) _ (by simp) (by simp) (hH.keep (keeps_of_below hB)) (hS.keep (keeps_of_below hB)) hT)
 have HB:=Lib.hid hB
 have HV:=Lib.hid hV
 have HG:=Lib.hid hG
 have HSm:=Lib.hid hsm
 clear hB hV hH hS sH sS hG hsm
 generalize hard++soft=L at HC hT HSm⊢
 go_enter Tryz.func110, Tryz.ntmps110
 go_wp2_with fail
 refine HC.out.mono ?_
 rintro e w2 ⟨a,cap,rfl,hE,hb2⟩
 have cb:w2.cell? ⟨w.heap.size,0,none⟩=some (.slice av vs.length cv):=(hb2.cell (p:=⟨w.heap.size,0,none⟩) (by simp;omega)).trans (by simp)
 have hz2:=hb2.size
 simp only[World.size_alloc] at hz2
 have HE:=Lib.hid hE
 have HA:=Lib.hid hE.addr
 have H2:Hid (Below w.heap.size w w2):=HB.out.trans (hb2.mono (by simp;omega))
 have CB:=Lib.hid cb
 clear hE hb2 cb
 go_wp2_with fail
 go_loopw [13,4,5] (fun i _ _ wr=>∃ k:Nat,i=.int .i64 k∧k≤L.length∧(∀ j (hj:j < L.length),j < k→ExprOk vs (L[j]'hj))∧Below w2.heap.size w2 wr) (fun i _ _ _=>L.length - (intOf i).toNat)
 case atStart=>exact⟨0,rfl,Nat.zero_le _,fun _ _ h=>absurd h (by omega),Below.refl _ _⟩
 case round =>
  obtain⟨k,rfl,hk,hall,hBr⟩:=hrel
  have HAl:=Lib.hid hall
  have HBr:=Lib.hid hBr
  have HBw:Hid (Below w.heap.size w wr):=H2.out.trans (hBr.mono H2.out.size)
  have hzr:=hBr.size
  clear hall
  by_cases hlt:k < L.length
  ·obtain⟨b,off,ha⟩:=HA.out.resolve_left (by omega)
   subst ha
   obtain⟨a',cap',g0,g1,g2,g3,hX⟩:=HE.out.get rfl hlt
   have hn:=HSm.out _ (List.getElem_mem hlt)
   have HNx:Hid (ExprOk vs (L[k]'hlt)→∀ j (hj:j < L.length),j < k+1→ExprOk vs (L[j]'hj)):=fun hv j hj hjk=>by
    by_cases e:j=k
    ·subst e;exact hv
    ·exact HAl.out j hj (by omega)
   have HNo:Hid (¬ ExprOk vs (L[k]'hlt)→¬ ∀ i (h:i < L.length),ExprOk vs (L[i]'h)):=fun h h'=>h (h' k hlt)
   generalize (L[k]'hlt)=e at g0 g1 g2 g3 hX hn HNx HNo
   have hAr:=arr_names e
   have hFo:=for_names vs e
   have kk:=keeps_of_below hBr
   obtain⟨op,n,s,args⟩:=e
   have HVa:=Lib.hid (fun W (hW:Below wr.heap.size wr W) hz=>fr (W0:=wr) (B:=wr.heap.size) (valid_any op n s args a' cap' W (HG.out.below (HBw.out.trans (hW.mono HBw.out.size))) (hX.keep (keeps_of_below (HBr.out.trans (hW.mono HBr.out.size)))) (by omega)) hW hz)
   have HAa:=Lib.hid (fun W (hW:Below wr.heap.size wr W) hz=>frW (Q:=StrsRet (namesS [3,24] (.mk op n s args))) (W0:=wr) (B:=wr.heap.size) (Arrays_any op n s args a' cap' W (hX.keep (keeps_of_below (HBr.out.trans (hW.mono HBr.out.size)))) (by omega)) hW hz)
   have HNa:=Lib.hid (fun W (hW:Below wr.heap.size wr W) hz=>frW (Q:=StrsRet (namesS [2] (.mk op n s args))) (W0:=wr) (B:=wr.heap.size) (Names_any op n s args a' cap' W (hX.keep (keeps_of_below (HBr.out.trans (hW.mono HBr.out.size)))) (by omega)) hW hz)
   simp only[Ex.op_mk,Ex.n_mk,Ex.name_mk,Ex.args_mk] at g0 g1 g2 g3
   have c0:=kk _ _ g0
   have c1:=kk _ _ g1
   have c2:=kk _ _ g2
   have c3:=kk _ _ g3
   have cb:=kk _ _ CB.out
   clear g0 g1 g2 g3 kk hX hn hBr
   generalize namesS [3,24] (Ex.mk op n s args)=A3 at hAr HAa
   have HCF:Hid (∀ (W:World) (al:Option Addr) (cl:Nat),Below wr.heap.size wr W→wr.heap.size≤W.heap.size→StrsIn W (namesS [2] (.mk op n s args)) al cl→Calls Tryz.prog 161 #[.slice al (namesS [2] (.mk op n s args)).length cl,.func (.func 162) #[] #[.pointer (some ⟨w.heap.size,0,none⟩)]] W fun e w'=>e=.returned (.bool ((Ex.mk op n s args).nodes.any (forN vs)))∧Below wr.heap.size wr w'):=fun W al cl hW hz hSt=>by
    rw[← hFo]
    refine(containsFunc_exprs w.heap.size (fun s=>decide (findV vs s 0 < 0)) (namesS [2] (.mk op n s args)) al cl W hSt (fun v _ w' hb'=>exprs1_any vs av cv v w.heap.size w' ((keeps_of_below (hW.trans (hb'.mono hz))) _ _ cb) (HV.out.keep (keeps_of_below (HBw.out.trans ((hW.trans (hb'.mono hz)).mono HBw.out.size)))))).mono fun e w' h=>⟨h.1,hW.trans (h.2.mono hz)⟩
   generalize namesS [2] (Ex.mk op n s args)=N2 at HCF HNa
   clear hFo
   by_cases hv:validS (Ex.mk op n s args)=0
   ·rw[hv] at HVa
    cases ha:(Ex.mk op n s args).nodes.any arrN
    ·rw[ha] at hAr
     obtain rfl:A3=[]:=by cases A3 with | nil=>rfl | cons=>simp at hAr
     cases hf:(Ex.mk op n s args).nodes.any (forN vs)
     ·rw[hf] at HCF
      have HOk:=Lib.hid (HNx.out ⟨hv,ha,hf⟩)
      clear HNx HNo hv hAr ha hf
      go_wp2_with (first | (go_at_call 98;(with_reducible refine(HVa.out _ bel sz).mono ?_);rintro e w1 ⟨rfl,hc1,hf1,hz1,hb1⟩;(try simp only[World.size_alloc] at hz1);have hzl:wr.heap.size < w1.heap.size:=(by omega)) | (go_at_call 99;(with_reducible refine(HAa.out _ bel sz).mono ?_);rintro e w1 ⟨⟨aa,ca,rfl,_⟩,hc1,hf1,hz1,hb1⟩;(try simp only[World.size_alloc] at hz1);have hzl:wr.heap.size < w1.heap.size:=(by omega)) | (go_at_call 100;(with_reducible refine(HNa.out _ bel sz).mono ?_);rintro e w1 ⟨⟨an,cn,rfl,hst⟩,hc1,hf1,hz1,hb1⟩;(try simp only[World.size_alloc] at hz1);have hzl:wr.heap.size < w1.heap.size:=(by omega);have HSt:=Lib.hid hst;clear hst) | (go_at_call 161;(with_reducible refine(HCF.out _ _ _ bel sz (by assumption:Hid (StrsIn _ _ _ _)).out).mono ?_);rintro e w1 ⟨rfl,hb1⟩))
      go_roundw
      case rel=>exact⟨k+1,by go_num,by omega,HOk.out,HBr.out.trans ((by assumption:Below wr.heap.size wr _).mono HBr.out.size)⟩
      case measure=>simp[intOf];omega
     ·rw[hf] at HCF
      have HOk:=Lib.hid (HNo.out (fun h=>by rw[h.names] at hf;simp at hf))
      clear HNx HNo hv hAr ha hf
      go_wp2_with (first | (go_at_call 98;(with_reducible refine(HVa.out _ bel sz).mono ?_);rintro e w1 ⟨rfl,hc1,hf1,hz1,hb1⟩;(try simp only[World.size_alloc] at hz1);have hzl:wr.heap.size < w1.heap.size:=(by omega)) | (go_at_call 99;(with_reducible refine(HAa.out _ bel sz).mono ?_);rintro e w1 ⟨⟨aa,ca,rfl,_⟩,hc1,hf1,hz1,hb1⟩;(try simp only[World.size_alloc] at hz1);have hzl:wr.heap.size < w1.heap.size:=(by omega)) | (go_at_call 100;(with_reducible refine(HNa.out _ bel sz).mono ?_);rintro e w1 ⟨⟨an,cn,rfl,hst⟩,hc1,hf1,hz1,hb1⟩;(try simp only[World.size_alloc] at hz1);have hzl:wr.heap.size < w1.heap.size:=(by omega);have HSt:=Lib.hid hst;clear hst) | (go_at_call 161;(with_reducible refine(HCF.out _ _ _ bel sz (by assumption:Hid (StrsIn _ _ _ _)).out).mono ?_);rintro e w1 ⟨rfl,hb1⟩))
      go_ret
      exact⟨.no HOk.out (by decide),HBw.out.trans ((by assumption:Below wr.heap.size wr _).mono HBw.out.size)⟩
    ·rw[ha] at hAr
     have hl3:1≤A3.length:=by cases A3 with | nil=>simp at hAr | cons=>simp
     have HOk:=Lib.hid (HNo.out (fun h=>by rw[h.arr] at ha;simp at ha))
     clear HNx HNo hv hAr ha
     go_wp2_with (first | (go_at_call 98;(with_reducible refine(HVa.out _ bel sz).mono ?_);rintro e w1 ⟨rfl,hc1,hf1,hz1,hb1⟩;(try simp only[World.size_alloc] at hz1);have hzl:wr.heap.size < w1.heap.size:=(by omega)) | (go_at_call 99;(with_reducible refine(HAa.out _ bel sz).mono ?_);rintro e w1 ⟨⟨aa,ca,rfl,_⟩,hc1,hf1,hz1,hb1⟩;(try simp only[World.size_alloc] at hz1);have hzl:wr.heap.size < w1.heap.size:=(by omega)) | (go_at_call 100;(with_reducible refine(HNa.out _ bel sz).mono ?_);rintro e w1 ⟨⟨an,cn,rfl,hst⟩,hc1,hf1,hz1,hb1⟩;(try simp only[World.size_alloc] at hz1);have hzl:wr.heap.size < w1.heap.size:=(by omega);have HSt:=Lib.hid hst;clear hst) | (go_at_call 161;(with_reducible refine(HCF.out _ _ _ bel sz (by assumption:Hid (StrsIn _ _ _ _)).out).mono ?_);rintro e w1 ⟨rfl,hb1⟩))
     go_ret
     exact⟨.no HOk.out (by decide),HBw.out.trans ((by assumption:Below wr.heap.size wr _).mono HBw.out.size)⟩
   ·have HOk:=Lib.hid (HNo.out (fun h=>hv h.valid))
    have hv':(validS (Ex.mk op n s args) != 0)=true:=by simpa using hv
    generalize validS (Ex.mk op n s args)=vv at HVa hv hv'
    have Hv:=Lib.hid hv
    clear HNx HNo hv hAr
    go_wp2_with (first | (go_at_call 98;(with_reducible refine(HVa.out _ bel sz).mono ?_);rintro e w1 ⟨rfl,hc1,hf1,hz1,hb1⟩;(try simp only[World.size_alloc] at hz1);have hzl:wr.heap.size < w1.heap.size:=(by omega)) | (go_at_call 99;(with_reducible refine(HAa.out _ bel sz).mono ?_);rintro e w1 ⟨⟨aa,ca,rfl,_⟩,hc1,hf1,hz1,hb1⟩;(try simp only[World.size_alloc] at hz1);have hzl:wr.heap.size < w1.heap.size:=(by omega)) | (go_at_call 100;(with_reducible refine(HNa.out _ bel sz).mono ?_);rintro e w1 ⟨⟨an,cn,rfl,hst⟩,hc1,hf1,hz1,hb1⟩;(try simp only[World.size_alloc] at hz1);have hzl:wr.heap.size < w1.heap.size:=(by omega);have HSt:=Lib.hid hst;clear hst) | (go_at_call 161;(with_reducible refine(HCF.out _ _ _ bel sz (by assumption:Hid (StrsIn _ _ _ _)).out).mono ?_);rintro e w1 ⟨rfl,hb1⟩))
    go_ret
    exact⟨.no HOk.out Hv.out,HBw.out.trans ((by assumption:Below wr.heap.size wr _).mono HBw.out.size)⟩
  ·obtain rfl:k=L.length:=by omega
   clear hBr
   go_wp2_with fail
   go_ret
   exact⟨ErrIff.congr (.yes trivial) ⟨fun _ i h=>HAl.out i h h,fun _=>trivial⟩,HBw.out⟩
end Go.Proofs.YtcplmcjbkpmhdaaGreatDoor
