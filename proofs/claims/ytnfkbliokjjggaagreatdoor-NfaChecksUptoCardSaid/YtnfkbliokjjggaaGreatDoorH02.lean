/- Valid, names, Names, Arrays of expressions. -/
import Derived.Test.YtnfkbliokjjggaaGreatDoorH01
set_option maxHeartbeats 4000000
set_option linter.unusedSimpArgs false
set_option linter.unusedVariables false
set_option linter.unnecessarySimpa false
namespace Go.Proofs.YtnfkbliokjjggaaGreatDoor
open Go.RowKit
def zdU (_:Int) (e:Ex):Int×Bool:=(xQ e,xQ e==0)
def yj:List Ex->Int
 | []=>0
 |e::l=>if xQ e=0 then yj l else xQ e
theorem zdN (l:List Ex):(xY zdU 0 l).1=yj l:=by
 induction l with
 |nil=>rfl
 |cons e l ih =>
  by_cases h:xQ e=0
  ·simp only[xY,zdU,h,yj,if_true];simpa [zdU] using ih
  ·simp[xY,zdU,h,yj]
noncomputable def zD (e:Ex):Int:=if yj e.nodes=0/\(24<e.depth\/400<e.nodes.length) then 2 else yj e.nodes
def InvV (B cb:Nat) (st:Int) (w:World):Prop:=B<=cb/\w.heap[cb]? = some (.cells #[.int .i64 st] 34 (0,0))/\qW w
theorem InvV.keep {B cb:Nat} (st:Int) (w w':World) (h:InvV B cb st w) (hb:Below w.heap.size w w'):InvV B cb st w' :=
 ⟨h.1,by rw[hb.block _ (lt_of_block h.2.1)];exact h.2.1,h.2.2.below hb⟩
theorem zjB (w0:World) (hG0:qW w0) (cb:Nat):ZZ 170 #[.pointer (some ⟨cb,0,none⟩)] w0 (λst w=>InvV w0.heap.size cb st w) (λ_=>0) zdU:=by
 intro st op n s args a cap w _ hI hB hE;have hcb:=lt_of_block hI.2.1;have hBA:Below w.heap.size w (w.alloc (.cells #[.int .i64 op,.int .i64 n,.string s,.slice a args.length cap] 24)):=(Below.refl _ _).alloc (Nat.le_refl _) _;have hC:=zgD op n s args a cap _ hE.1 hE.2.2.1 (hI.2.2.below hBA);have HC:=Lib.hid (hC.mono λe w' h=>(⟨h.1,hBA.trans (h.2.mono hBA.size)⟩:_/\Below w.heap.size w w'));have HI:=Lib.hid hI;have HB:=Lib.hid hB;clear hI hB hE hC hBA;show Calls _ _ #[_,_] _ _;go_enter Tryz.func170, Tryz.ntmps170;go_wp2_with fail;refine HC.out.mono ?_;rintro e w2 ⟨rfl,hb2⟩;have hb:w2.heap[cb]? = _:=(hb2.block _ hcb).trans HI.out.2.1;have c0:=cell_of_one hb;have f0:=free_of_one hb;have HH:=Lib.hid hb;have HB2:=Lib.hid hb2;clear hb hb2 hcb;go_wp2_with fail;go_ret;have hlow:∀p v,w0.cell? p=some v->(w2.setCell ⟨cb,0,none⟩ (.int .i64 (xQ (.mk op n s args)))).cell? p=some v:=by intro p v hp;have h1:=za HB.out _ _ hp;have h2:=za HB2.out _ _ h1;have h3:=World.block_lt_of_cell? _ _ hp;rw[World.cell?_setCell_other _ _ _ _ (by rintro rfl;exact absurd HI.out.1 (by simpa using h3))];exact h2
 exact⟨rfl,⟨HI.out.1,one_setCell HH.out,hG0.keep hlow⟩,(KT.of_below HB2.out).setCell HH.out (by unfold QN;decide) HI.out.1 _⟩
theorem zbo (op n:Int) (s:ByteArray) (args:List Ex) (a:Option Addr) (cap:Nat) (w:World) (hG:qW w) (hE:yA w (.mk op n s args) a cap) (hn:(Ex.mk op n s args).nodes.length<=1073741824) :
 Calls Tryz.prog 101 #[.agg #[.int .i64 op,.int .i64 n,.string s,.slice a args.length cap]] w λe w'=>e=.returned (.int .i64 (zD (.mk op n s args)))/\Below w.heap.size w w':=by
 have hB:Below w.heap.size w ((w.alloc (.cells #[.int .i64 op,.int .i64 n,.string s,.slice a args.length cap] 24)).alloc (.cells #[.int .i64 0] 34)):=bel;have hC:=zhc (w.heap.size+1) (λst w'=>InvV w.heap.size (w.heap.size+1) st w') (λ_=>0) zdU w (λ_ _=>by simp) InvV.keep (zjB w hG (w.heap.size+1)) op n s args 0 a cap _ (by omega) ⟨by omega,zm _ _ _ (by simp),hG.below hB⟩ hB hE;rw[zdN]at hC;have HB:=Lib.hid hB;have HC:=Lib.hid hC;have HE:=Lib.hid hE;have Hn:=Lib.hid hn;have hbox:((w.alloc (.cells #[.int .i64 op,.int .i64 n,.string s,.slice a args.length cap] 24)).alloc (.cells #[.int .i64 0] 34)).heap[w.heap.size]? = some (.cells #[.int .i64 op,.int .i64 n,.string s,.slice a args.length cap] 24):=by rw[Below.heap_alloc _ _ _ (by simp)];exact zi _ _
 have HX:=Lib.hid hbox;clear hC hB hE hn hG hbox;go_enter Tryz.func101, Tryz.ntmps101;go_wp2_with fail;refine HC.out.mono ?_;rintro e w2 ⟨rfl,hI2,hK2⟩;have c0:=cell_of_one hI2.2.1;have hx2:=hK2.typed _ _ _ _ HX.out (Or.inl rfl);have b0:w2.cell? ⟨w.heap.size,0,none⟩=some (.int .i64 op):=by simp[World.cell?,hx2]
 have b1:w2.cell? ⟨w.heap.size,1,none⟩=some (.int .i64 n):=by simp[World.cell?,hx2]
 have b2:w2.cell? ⟨w.heap.size,2,none⟩=some (.string s):=by simp[World.cell?,hx2]
 have b3:w2.cell? ⟨w.heap.size,3,none⟩=some (.slice a args.length cap):=by simp[World.cell?,hx2]
 have hb2:Below w.heap.size w w2:=HB.out.trans (hK2.below (by simp;omega));have hz2:=hK2.size;simp only[World.size_alloc]at hz2;have hzl0:w.heap.size<w2.heap.size:=by omega
 have hzl1:w.heap.size+1<w2.heap.size:=by omega
 have HD:=Lib.hid (fr (W0:=w) (B:=w.heap.size) (zeI (.mk op n s args) a cap w2 Hn.out (HE.out.keep (za hb2))) hb2 (by omega));simp only[zL,Ex.op_mk,Ex.n_mk,Ex.name_mk,Ex.args_mk]at HD;have HB2:=Lib.hid hb2;clear hI2 hK2 hx2 hb2 hz2;by_cases h0:yj (Ex.mk op n s args).nodes=0
 ·have hv:Hid (zD (.mk op n s args)=if (24<(Ex.mk op n s args).depth\/400<(Ex.mk op n s args).nodes.length) then 2 else 0):=by
   show _=_;unfold zD;simp[h0]
  have c0':w2.cell? ⟨w.heap.size+1,0,none⟩=some (.int .i64 0):=by rw[c0,h0]
  have h0':=Lib.hid h0;clear h0 c0;by_cases hd:24<(Ex.mk op n s args).depth
  ·go_wp2_with (go_at_call 172;refine HD.out.mono ?_;rintro e w3 ⟨rfl,hc3,hf3,hz3,hb3⟩);go_ret;exact⟨by rw[hv.out,if_pos (Or.inl hd)];rfl,by assumption⟩
  ·have hs:=λw3 (hb3:Below w.heap.size w w3) (hz3:w.heap.size<=w3.heap.size)=>fr (W0:=w) (B:=w.heap.size) (zcJ op n s args a cap w3 (HE.out.keep (za hb3)) Hn.out) hb3 hz3;have HS:=Lib.hid hs;clear hs;by_cases hs:400<(Ex.mk op n s args).nodes.length
   ·go_wp2_with (first|(go_at_call 172;refine HD.out.mono ?_;rintro e w3 ⟨rfl,hc3,hf3,hz3,hb3⟩;have hzl3:w.heap.size<w3.heap.size:=(by omega);have hzl4:w.heap.size+1<w3.heap.size:=(by omega))|(go_at_call 173;go_must (refine(HS.out _ (by assumption) (by omega)).mono ?_;rintro e w4 ⟨rfl,hc4,hf4,hz4,hb4⟩)));go_ret;exact⟨by rw[hv.out,if_pos (Or.inr hs)];rfl,by assumption⟩
   ·go_wp2_with (first|(go_at_call 172;refine HD.out.mono ?_;rintro e w3 ⟨rfl,hc3,hf3,hz3,hb3⟩;have hzl3:w.heap.size<w3.heap.size:=(by omega);have hzl4:w.heap.size+1<w3.heap.size:=(by omega))|(go_at_call 173;go_must (refine(HS.out _ (by assumption) (by omega)).mono ?_;rintro e w4 ⟨rfl,hc4,hf4,hz4,hb4⟩)));go_ret;exact⟨by rw[hv.out,if_neg (by omega)];rfl,by assumption⟩
 ·have hv:Hid (zD (.mk op n s args)=yj (Ex.mk op n s args).nodes):=by
   show _=_;unfold zD;simp[h0]
  go_wp2_with fail;go_ret;exact⟨by rw[hv.out];rfl,HB2.out⟩
theorem zfl {P:Program} {ops:Array Oper} {rest:List Oper} {o:Oper} {a:Act} {Q:Exit->Act->World->Prop} {t e:TypeId} {size:Nat} (he:Elem P t e size) (w:World) (hgd:o.guard=none) (s x:Operand)
 (ho:o.op=.call { callee:=.builtin .append,args:=#[s,x],argTypes:=#[t,t] })
 (base:Nat) (v:Value) (n:Nat) (xs:List Value) (hs:a.eval s=v) (hown:w.ownsRow base e size v n xs)
 (news:List Value) (hl:news.length=size) (h1:∀u∈news,u.oneCell'=true) (k c:Nat) (hx:a.eval x=.slice (some ⟨k,0,none⟩) 1 c) (hk:k=w.heap.size) (hn:n<=1073741824) (hbase:base<=w.heap.size)
 (h:∀v' w',w'.ownsRow base e size v' (n+1) (xs++news)->(w.alloc (.cells news.toArray e)).grownBy w' v.ownBlock->wpList P ops Q rest (a.put o.dst v') w'):wpList P ops Q (o::rest) a (w.alloc (.cells news.toArray e)):=by
 subst hk;exact zbV he w hgd s x ho base v n xs hs hown news hl h1 c hx hn hbase h
theorem qL {w:World} {base:Nat} {e:TypeId} {size:Nat} {v:Value} {n:Nat} {xs:List Value} (h:w.ownsRow base e size v n xs) {k:Nat} {c:Array Value} {t:TypeId} {z:Nat×Nat} (hk:w.heap[k]? = some (.cells c t z)) (ht:t≠e) (o:Nat) (u:Value):(w.setCell ⟨k,o,none⟩ u).ownsRow base e size v n xs :=
 ownsRow_setCell_other h (λh'=>zv h hk ht h'.symm) u
def zI (ops:List Int) (st:List ByteArray) (e:Ex):List ByteArray:=if ops.contains e.op=true/\Lib.containsS st e.name=false then st++[e.name] else st
def zfK (ops:List Int) (st:List ByteArray) (e:Ex):List ByteArray×Bool:=(zI ops st e,true)
theorem runN (ops:List Int) (l:List Ex):∀st,xY (zfK ops) st l=(l.foldl (zI ops) st,true):=by
 induction l with
 |nil=>intro st;rfl
 |cons e l ih=>intro st;simp only[xY,zfK,if_true,List.foldl_cons];exact ih _
noncomputable def zG (ops:List Int) (e:Ex):List ByteArray:=e.nodes.foldl (zI ops) []
theorem xT (ops:List Int) (st:List ByteArray) (e:Ex):(zI ops st e).length<=st.length+1:=by unfold zI;split<;>simp
theorem Zg (ops:List Int) (l:List Ex):∀st:List ByteArray,(l.foldl (zI ops) st).length<=st.length+l.length:=by
 induction l with
 |nil=>intro st;simp
 |cons e l ih =>intro st;have h1:=ih (zI ops st e);have h2:=xT ops st e;simp only[List.foldl_cons,List.length_cons];omega
theorem zh2:Elem Tryz.prog 43 9 1:=Elem.of Tryz.underlying43 (by kernel_rfl) (z:=.string .empty) (bytes:=16) rfl (by decide) (by decide)
def zd5 (B ca cb bo cap:Nat) (ops:List Int) (st:List ByteArray) (w:World):Prop :=
 (B<=cb/\B<=ca/\B<=bo)/\(∃v,w.heap[cb]? = some (.cells #[v] 43 (0,0))/\w.ownsRow B 9 1 v st.length (st.map Value.string)) /\
  w.heap[ca]? = some (.cells #[.slice (some ⟨bo,0,none⟩) ops.length cap] 31 (0,0))/\w.heap[bo]? = some (.cells (ops.map (Value.int .i64)).toArray 3 (0,0))
theorem zd5.keep {B ca cb bo cap:Nat} {ops:List Int} (st:List ByteArray) (w w':World) (h:zd5 B ca cb bo cap ops st w) (hb:Below w.heap.size w w'):zd5 B ca cb bo cap ops st w':=by obtain⟨h0,⟨v,h1,h2⟩,h3,h4⟩:=h;exact⟨h0,⟨v,by rw[hb.block _ (lt_of_block h1)];exact h1,ownsRow_below h2 hb⟩,by rw[hb.block _ (lt_of_block h3)];exact h3,by rw[hb.block _ (lt_of_block h4)];exact h4⟩
theorem zgH {w:World} {bo:Nat} {ops:List Int} (h:w.heap[bo]? = some (.cells (ops.map (Value.int .i64)).toArray 3 (0,0))) (j:Nat) (hj:j<ops.length):w.cell? ⟨bo,0+j,none⟩=some (.int .i64 (ops.getD j 0)):=by simp[World.cell?,h,hj]
theorem zbD (w:World) (B:Nat) (v:Value) (st:List ByteArray) (x:ByteArray) (hown:w.ownsRow B 9 1 v st.length (st.map Value.string)) (hn:st.length<=1073741824) :
 Calls Tryz.prog 194 #[v,.string x] w λe w'=>e=.returned (.bool (Lib.containsS st x))/\w=w':=by
 obtain⟨a,cap,rfl,hs⟩:=x6 hown hn;by_cases h0:st=[]
 ·subst h0;exact(Tryz.slices_Contains_string_empty a cap x w).mono λe w' h=>⟨h.1,h.2.symm⟩
 ·obtain⟨b,off,rfl⟩:=hs.addr.resolve_left (by simpa using h0);have:=Tryz.slices_Contains_string b off st.length cap st x w (Nat.le_refl _) (by omega) (λj hj=>by
   rw[hs.get rfl hj];simp[hj])
  rw[List.take_of_length_le (Nat.le_refl _)]at this;exact this.mono λe w' h=>⟨h.1,h.2.symm⟩
theorem zhH (w0:World) (ca cb bo cap:Nat) (ops:List Int) (hol:0<ops.length/\ops.length<=1000):ZZ 291 #[.pointer (some ⟨ca,0,none⟩),.pointer (some ⟨cb,0,none⟩)] w0 (zd5 w0.heap.size ca cb bo cap ops) List.length (zfK ops):=by
 intro st op n s args a cap' w hroom hI hB hE;have hBA:Below w.heap.size w (w.alloc (.cells #[.int .i64 op,.int .i64 n,.string s,.slice a args.length cap'] 24)):=(Below.refl _ _).alloc (Nat.le_refl _) _;have hI2:=zd5.keep st w _ hI hBA;have HKA:Hid (KT w0.heap.size w (w.alloc (.cells #[.int .i64 op,.int .i64 n,.string s,.slice a args.length cap'] 24))):=KT.of_below hBA;obtain⟨⟨hb1,hb2,hb3⟩,⟨v,hv,hown⟩,hca,hbo⟩:=hI;have cA:∀o,(w.alloc o).cell? ⟨ca,0,none⟩=_:=λo=>(World.cell?_alloc_lt _ _ _ (lt_of_block hca)).trans (cell_of_one hca);have cB:∀o,(w.alloc o).cell? ⟨cb,0,none⟩=_:=λo=>(World.cell?_alloc_lt _ _ _ (lt_of_block hv)).trans (cell_of_one hv);have hci:=Tryz.slices_Contains_int bo 0 ops.length cap ops op (w.alloc (.cells #[.int .i64 op,.int .i64 n,.string s,.slice a args.length cap'] 24)) (Nat.le_refl _) (by omega) (λj hj=>(World.cell?_alloc_lt _ _ _ (lt_of_block hbo)).trans (zgH hbo j hj));rw[List.take_of_length_le (Nat.le_refl _)]at hci;have HCI:=Lib.hid hci;have HCS:=Lib.hid (zbD _ _ v st s (ownsRow_below hown hBA) (by omega));have HI2:=Lib.hid hI2;have HV:=Lib.hid (⟨hv,hown,hca,hbo,hb1,hb2,hb3⟩:_/\_/\_/\_/\_/\_/\_);clear hI2 hBA hE hci hv hown hca hbo hb1 hb2 hb3 hB;show Calls _ _ #[.agg #[_,_,_,_],.pointer (some ⟨ca,0,none⟩),.pointer (some ⟨cb,0,none⟩)] _ _;go_enter Tryz.func291, Tryz.ntmps291
 go_wp2_with fail;refine HCI.out.mono ?_;rintro e w2 ⟨rfl,rfl⟩;cases hc:ops.contains op
 ·go_wp2_with fail;go_ret;refine⟨rfl,?_,HKA.out⟩;have:zI ops st (.mk op n s args)=st:=by unfold zI;rw[if_neg (by rw[Ex.op_mk,hc];simp)]
  show zd5 _ _ _ _ _ _ (zI ops st (.mk op n s args)) _;rw[this];exact HI2.out
 ·cases hs:Lib.containsS st s
  ·have Hc:=Lib.hid hc;have Hs:=Lib.hid hs;clear hs hc;have hO:=ownsRow_below HV.out.2.1 ((Below.refl _ _).alloc (Nat.le_refl _) (.cells #[.int .i64 op,.int .i64 n,.string s,.slice a args.length cap'] 24));have HO:=Lib.hid hO;clear hO;have hroom':st.length<=1073741824:=by omega
   have hsz:w0.heap.size<=w.heap.size:=by have:=HV.out.2.2.2.2.1;have:=lt_of_block HV.out.1;omega
   go_wp2_with (first|(go_at_call 194;refine HCS.out.mono ?_;rintro e w2 ⟨rfl,rfl⟩;rw[Hs.out])|(at_builtin;go_must (refine zfl zh2 _ rfl (.tmp 16) (.tmp 19) rfl w0.heap.size v st.length (st.map Value.string) rfl HO.out [.string s] rfl (by simp[Value.oneCell']) _ 1 rfl (by simp) hroom' (by simp;omega) ?_)));intro v' w3 hown3 hg3;have hW:((w.alloc (.cells #[.int .i64 op,.int .i64 n,.string s,.slice a args.length cap'] 24)).alloc (.cells #[.string s] 9)).heap[cb]? = some (.cells #[v] 43 (0,0)):=by rw[Below.heap_alloc _ _ _ (by have:=lt_of_block HV.out.1;simp;omega),Below.heap_alloc _ _ _ (lt_of_block HV.out.1)];exact HV.out.1
   have hne:=zv HV.out.2.1 HV.out.1 (by decide);have h3:w3.heap[cb]? = some (.cells #[v] 43 (0,0)):=(hg3.block _ (lt_of_block hW) hne).trans hW;have c3:=cell_of_one h3;have f3:=free_of_one h3;obtain⟨a3,k3,hv3,_⟩:=y6 hown3 (by omega);subst hv3;have H3:=Lib.hid (⟨hown3,hg3,h3,hne⟩:_/\_/\_/\_);clear hown3 hg3 hW hne h3;go_wp2_with fail;go_ret;have hadd:zI ops st (.mk op n s args)=st++[s]:=by unfold zI;rw[if_pos ⟨Hc.out,Hs.out⟩,Ex.name_mk]
   obtain⟨hv,hown,hca,hbo,hb1,hb2,hb3⟩:=HV.out;obtain⟨hown3,hg3,h3,hne⟩:=H3.out;have hB2:Below w.heap.size w ((w.alloc (.cells #[.int .i64 op,.int .i64 n,.string s,.slice a args.length cap'] 24)).alloc (.cells #[.string s] 9)):=((Below.refl _ _).alloc (Nat.le_refl _) _).alloc (by simp) _;have old:∀(k:Nat) (c:Array Value) (t:TypeId),w.heap[k]? = some (.cells c t (0,0))->t≠9->k≠cb->(w3.setCell ⟨cb,0,none⟩ (.slice a3 (st.length+1) k3)).heap[k]? = some (.cells c t (0,0)):=by intro k c t hk ht hkb;have h1:=(hB2.block _ (lt_of_block hk)).trans hk;rw[Below.heap_setCell _ _ _ _ hkb,hg3.block _ (lt_of_block h1) (zv hown hk ht)];exact h1
   refine⟨rfl,?_,?_⟩
   ·show zd5 _ _ _ _ _ _ (zI ops st (.mk op n s args)) _;rw[hadd];refine⟨⟨hb1,hb2,hb3⟩,⟨_,one_setCell h3,?_⟩,old _ _ _ hca (by decide) (by rintro rfl;rw[hv]at hca;simp at hca),old _ _ _ hbo (by decide) (by rintro rfl;rw[hv]at hbo;simp at hbo)⟩;have:=qL hown3 h3 (by decide) 0 (.slice a3 (st.length+1) k3);simpa using this
   ·refine KT.setCell (KT.grown (HKA.out.alloc (.cells #[.string s] 9)) hg3 (λk hk=>by obtain⟨_,_,h⟩:=qg hown hk;exact h) ?_) h3 (by unfold QN;decide) hb1 _;intro k c t z hk hh hs;obtain⟨cur,hcur,_⟩:=qg hown hk;rw[(hB2.block _ (lt_of_block hcur)).trans hcur]at hh;simp only[Option.some.injEq,Obj.cells.injEq]at hh;rw[←hh.2.1]at hs;exact absurd hs (by unfold QN;decide)
  ·go_wp2_with (go_at_call 194;refine HCS.out.mono ?_;rintro e w2 ⟨rfl,rfl⟩);go_ret;refine⟨rfl,?_,HKA.out⟩;have:zI ops st (.mk op n s args)=st:=by unfold zI;rw[if_neg (by rw[Ex.name_mk,hs];simp)]
   show zd5 _ _ _ _ _ _ (zI ops st (.mk op n s args)) _;rw[this];exact HI2.out
theorem zaW (op n:Int) (s:ByteArray) (args:List Ex) (a:Option Addr) (cap bo oc:Nat) (ops:List Int) (w:World) (hE:yA w (.mk op n s args) a cap) (hn:(Ex.mk op n s args).nodes.length<=1073741824)
 (B:Nat) (w0:World) (hw0:B=w0.heap.size) (hW:Below B w0 w) (hbB:B<=bo) (hbo:w.heap[bo]? = some (.cells (ops.map (Value.int .i64)).toArray 3 (0,0))) (hol:0<ops.length/\ops.length<=1000) (hE0:yA w0 (.mk op n s args) a cap) :
 Calls Tryz.prog 253 #[.agg #[.int .i64 op,.int .i64 n,.string s,.slice a args.length cap],.slice (some ⟨bo,0,none⟩) ops.length oc] w λe w' =>
  (∃a' cap',e=.returned (.slice a' (zG ops (.mk op n s args)).length cap')/\zM w' (zG ops (.mk op n s args)) a' cap')/\Below B w0 w':=by
 subst hw0;have hB:Below w.heap.size w (((w.alloc (.cells #[.int .i64 op,.int .i64 n,.string s,.slice a args.length cap] 24)).alloc (.cells #[.slice (some ⟨bo,0,none⟩) ops.length oc] 31)).alloc (.cells #[.slice none 0 0] 43)):=bel;have hws:=hW.size
 have hC:=zcP (w.heap.size+1) (w.heap.size+1+1) (zd5 w0.heap.size (w.heap.size+1) (w.heap.size+1+1) bo oc ops) List.length (zfK ops) w0 (λst e=>xT ops st e) zd5.keep (zhH w0 _ _ bo oc ops hol) op n s args [] a cap _ (by simpa using hn)
  ⟨⟨by omega,by omega,hbB⟩,⟨_,zm _ _ _ (by simp),World.ownsRow_nil _ _ _ _⟩,by rw[Below.heap_alloc _ _ _ (by simp)];exact zm _ _ _ (by simp),by rw[hB.block _ (lt_of_block hbo)];exact hbo⟩ (hW.trans (hB.mono hws)) hE0
 rw[runN]at hC;have HB:=Lib.hid hB;have HC:=Lib.hid hC;have HW:=Lib.hid hW;have Hn:=Lib.hid hn;have Hws:=Lib.hid hws;clear hC hB hE hn hW hbo hE0 hbB hws;go_enter Tryz.func253, Tryz.ntmps253;go_wp2_with fail;refine HC.out.mono ?_;rintro e w2 ⟨rfl,hI2,hK2⟩;obtain⟨_,⟨v,hv,hown⟩,_⟩:=hI2;have c0:=cell_of_one hv;have HK2:=Lib.hid hK2;have HO:=Lib.hid hown;clear hK2 hv hown;go_wp2_with fail;go_ret;obtain⟨a',cap',rfl,hs⟩:=x6 HO.out (by have:=Zg ops (Ex.mk op n s args).nodes [];have:=Hn.out;simp at *;omega);exact⟨⟨a',cap',rfl,hs⟩,HW.out.trans ((HB.out.mono Hws.out).trans (HK2.out.below (by have:=HB.out.size;have:=Hws.out;omega)))⟩
theorem Xc (op n:Int) (s:ByteArray) (args:List Ex) (a:Option Addr) (cap:Nat) (w:World) (hE:yA w (.mk op n s args) a cap) (hn:(Ex.mk op n s args).nodes.length<=1073741824) :
 Calls Tryz.prog 200 #[.agg #[.int .i64 op,.int .i64 n,.string s,.slice a args.length cap]] w λe w' =>
  (∃a' cap',e=.returned (.slice a' (zG [2] (.mk op n s args)).length cap')/\zM w' (zG [2] (.mk op n s args)) a' cap')/\Below w.heap.size w w':=by
 have hB:Below w.heap.size w ((w.alloc (.cells #[.int .i64 op,.int .i64 n,.string s,.slice a args.length cap] 24)).alloc (.cells (([2]:List Int).map (Value.int .i64)).toArray 3)):=bel;have hC:=zaW op n s args a cap (w.heap.size+1) ([2]:List Int).length [2] _ (hE.keep (za hB)) hn _ w rfl hB (by omega) (zm _ _ _ (by simp)) (by decide) hE;have HC:=Lib.hid hC;clear hC hB hE hn;go_enter Tryz.func200, Tryz.ntmps200;go_wp2_with fail;refine HC.out.mono ?_;rintro e w2 ⟨⟨a',cap',rfl,hs⟩,hb⟩;have HS:=Lib.hid (⟨hs,hb⟩:_/\_);clear hs hb;go_wp2_with fail;go_ret;exact⟨⟨a',cap',rfl,HS.out.1⟩,HS.out.2⟩
theorem zcT (op n:Int) (s:ByteArray) (args:List Ex) (a:Option Addr) (cap:Nat) (w:World) (hE:yA w (.mk op n s args) a cap) (hn:(Ex.mk op n s args).nodes.length<=1073741824) :
 Calls Tryz.prog 201 #[.agg #[.int .i64 op,.int .i64 n,.string s,.slice a args.length cap]] w λe w' =>
  (∃a' cap',e=.returned (.slice a' (zG [3,24] (.mk op n s args)).length cap')/\zM w' (zG [3,24] (.mk op n s args)) a' cap')/\Below w.heap.size w w':=by
 have hB:Below w.heap.size w ((w.alloc (.cells #[.int .i64 op,.int .i64 n,.string s,.slice a args.length cap] 24)).alloc (.cells (([3,24]:List Int).map (Value.int .i64)).toArray 3)):=bel;have hC:=zaW op n s args a cap (w.heap.size+1) ([3,24]:List Int).length [3,24] _ (hE.keep (za hB)) hn _ w rfl hB (by omega) (zm _ _ _ (by simp)) (by decide) hE;have HC:=Lib.hid hC;clear hC hB hE hn;go_enter Tryz.func201, Tryz.ntmps201;go_wp2_with fail;refine HC.out.mono ?_;rintro e w2 ⟨⟨a',cap',rfl,hs⟩,hb⟩;have HS:=Lib.hid (⟨hs,hb⟩:_/\_);clear hs hb;go_wp2_with fail;go_ret;exact⟨⟨a',cap',rfl,HS.out.1⟩,HS.out.2⟩
def Zn (b:Bool):Int:=if b then 1 else 0
def YJ (op a:Int):Int:=if op=4 then Zn (a==0) else if op=5 then zjF a else if op=6 then zjG a else zfk a
def zjE (a b:Int):Int:=((a.toNat &&& b.toNat:Nat):Int)
def orW (a b:Int):Int:=((a.toNat ||| b.toNat:Nat):Int)
def zjJ (a b:Int):Int:=((a.toNat ^^^ b.toNat:Nat):Int)
def Yz (op a b:Int):Int :=
 if op=7 then zhn a b else if op=8 then zjY a b else if op=9 then zjV a b else if op=10 then zjE a b else if op=11 then orW a b else if op=12 then zjJ a b
 else if op=13 then ziP a b else if op=14 then ziQ a b else if op=15 then Zn (a==b) else if op=16 then Zn (a != b) else if op=17 then Zn (decide (a<b)) else if op=18 then Zn (decide (a<=b))
 else if op=19 then Zn (a != 0&&b != 0) else if op=20 then Zn (a != 0||b != 0) else Zn (a==0||b != 0)
theorem zbn (b:Bool) (w:World):Calls Tryz.prog 328 #[.bool b] w λe w'=>e=.returned (.int .i64 (Zn b))/\w=w':=by
 cases b
 all_goals
  go_enter Tryz.func328, Tryz.ntmps328;go_wp2_with fail;go_ret;exact⟨rfl,rfl⟩
theorem zia (a b:Int) (ha:0<=a) (ha':a<65536) (hb:0<=b) (hb':b<65536):bits .and .i64 a b=zjE a b:=by obtain⟨A,rfl⟩:=Int.eq_ofNat_of_zero_le ha;obtain⟨B,rfl⟩:=Int.eq_ofNat_of_zero_le hb;have h1:bits .and .i64 (A:Int) (B:Int)=IntKind.i64.wrap ((BitVec.ofInt 64 A &&& BitVec.ofInt 64 B).toNat:Int):=rfl;have hl:A &&& B<=A:=Nat.and_le_left;rw[h1,BitVec.toNat_and,ofInt_u64 _ (by omega),ofInt_u64 _ (by omega),IntKind.wrap_i64];unfold zjE;simp only[Int.toNat_natCast];omega
theorem zja (a b:Int) (ha:0<=a) (ha':a<65536) (hb:0<=b) (hb':b<65536):bits .or .i64 a b=orW a b:=by obtain⟨A,rfl⟩:=Int.eq_ofNat_of_zero_le ha;obtain⟨B,rfl⟩:=Int.eq_ofNat_of_zero_le hb;have h1:bits .or .i64 (A:Int) (B:Int)=IntKind.i64.wrap ((BitVec.ofInt 64 A ||| BitVec.ofInt 64 B).toNat:Int):=rfl;have hl:A ||| B<2 ^ 16:=Nat.or_lt_two_pow (by omega) (by omega);rw[h1,BitVec.toNat_or,ofInt_u64 _ (by omega),ofInt_u64 _ (by omega),IntKind.wrap_i64];unfold orW;simp only[Int.toNat_natCast];omega
theorem zib (a b:Int) (ha:0<=a) (ha':a<65536) (hb:0<=b) (hb':b<65536):bits .xor .i64 a b=zjJ a b:=by obtain⟨A,rfl⟩:=Int.eq_ofNat_of_zero_le ha;obtain⟨B,rfl⟩:=Int.eq_ofNat_of_zero_le hb;have h1:bits .xor .i64 (A:Int) (B:Int)=IntKind.i64.wrap ((BitVec.ofInt 64 A ^^^ BitVec.ofInt 64 B).toNat:Int):=rfl;have hl:A ^^^ B<2 ^ 16:=Nat.xor_lt_two_pow (by omega) (by omega);rw[h1,BitVec.toNat_xor,ofInt_u64 _ (by omega),ofInt_u64 _ (by omega),IntKind.wrap_i64];unfold zjJ;simp only[Int.toNat_natCast];omega
theorem zdS (op a:Int) (w:World):Calls Tryz.prog 315 #[.int .i64 op,.int .i64 a] w λe w'=>e=.returned (.int .i64 (YJ op a))/\Below w.heap.size w w':=by
 have HS:Hid (YJ op a=if op=4 then Zn (a==0) else if op=5 then zjF a else if op=6 then zjG a else zfk a):=rfl;go_enter Tryz.func315, Tryz.ntmps315;go_wp2_with (first|(go_at_call 328;refine(zbn _ _).mono ?_;rintro e w' ⟨rfl,rfl⟩)|(go_at_call 329;refine(zf1 _ _).mono ?_;rintro e w' ⟨rfl,rfl⟩)|(go_at_call 330;refine(zf3 _ _).mono ?_;rintro e w' ⟨rfl,rfl⟩)|(go_at_call 331;go_must (refine(fr (W0:=w) (B:=w.heap.size) (zeg _ _) bel sz).mono ?_;rintro e w1 ⟨rfl,hc1,hf1,hz1,hb1⟩;try simp only[World.size_alloc,World.size_setCell,World.size_drew,World.heap_drewN]at hz1;try (have hzl0:w.heap.size<w1.heap.size:=by omega);try (have hzl1:w.heap.size+1<w1.heap.size:=by omega);try (have hzl2:w.heap.size+2<w1.heap.size:=by omega);try (have hzl3:w.heap.size+3<w1.heap.size:=by omega);try (have hzl4:w.heap.size+4<w1.heap.size:=by omega);try (have hzl5:w.heap.size+5<w1.heap.size:=by omega))));all_goals go_ret
 all_goals refine⟨?_,bel⟩
 all_goals rw[HS.out]
 all_goals simp_all
theorem zdb (op a b:Int) (ha:0<=a) (ha':a<65536) (hb:0<=b) (hb':b<65536) (w:World):Calls Tryz.prog 316 #[.int .i64 op,.int .i64 a,.int .i64 b] w λe w'=>e=.returned (.int .i64 (Yz op a b))/\w=w':=by
 have h1:=zia a b ha ha' hb hb';have h2:=zja a b ha ha' hb hb';have h3:=zib a b ha ha' hb hb';go_enter Tryz.func316, Tryz.ntmps316;go_wp2_with (first|(go_at_call 328;refine(zbn _ _).mono ?_;rintro e w' ⟨rfl,rfl⟩)|(go_at_call 314;refine(zcf _ _ _).mono ?_;rintro e w' ⟨rfl,rfl⟩)|(go_at_call 332;refine(zf6 _ _ _).mono ?_;rintro e w' ⟨rfl,rfl⟩)|(go_at_call 333;refine(zf2 _ _ _).mono ?_;rintro e w' ⟨rfl,rfl⟩)|(go_at_call 334;refine(zf4 _ _ _).mono ?_;rintro e w' ⟨rfl,rfl⟩)|(go_at_call 335;refine(zf5 _ _ _).mono ?_;rintro e w' ⟨rfl,rfl⟩));all_goals go_ret
 all_goals refine⟨?_,rfl⟩
 all_goals congr 2
 all_goals unfold Yz
 all_goals simp_all
 rename_i h;have h':(a != 0)=true:=by simpa using h
 rw[h',Bool.true_or]
end Go.Proofs.YtnfkbliokjjggaaGreatDoor
