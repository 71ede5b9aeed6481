/- The reference of expressions: value. -/
import Derived.Test.YtcplmcjbkpmhdaaGreatDoorKD
set_option linter.unusedSimpArgs false
set_option linter.unusedVariables false
set_option linter.unnecessarySimpa false
namespace Go.Proofs.YtcplmcjbkpmhdaaGreatDoor
open Go.RowKit
noncomputable def knownA (env:List (ByteArray × Int)) (e:Ex):Bool:=e.nodes.all (knownN env)
theorem knownA_eq (env:List (ByteArray × Int)) (e:Ex):knownA env e=(knownN env e && e.args.all (knownA env)):=by
 unfold knownA
 rw[Ex.nodes_eq,List.all_cons,List.all_flatten,List.all_map]
 rfl
theorem knownA_arg {env:List (ByteArray × Int)} {e x:Ex} (hx:x∈e.args) (h:knownA env x=false):knownA env e=false:=by
 rw[knownA_eq]
 cases ha:e.args.all (knownA env)
 ·simp
 ·rw[List.all_eq_true.1 ha x hx] at h;simp at h
theorem knownA_self {env:List (ByteArray × Int)} {e:Ex} (h:∀ j (hj:j < e.args.length),knownA env (e.args[j]'hj)=true):knownA env e=knownN env e:=by
 have:e.args.all (knownA env)=true:=List.all_eq_true.2 fun x hx=>by
  obtain⟨j,hj,rfl⟩:=List.mem_iff_getElem.1 hx
  exact h j hj
 rw[knownA_eq,this,Bool.and_true]
noncomputable def rvalS (env:List (ByteArray × Int)) (e:Ex):Int:=if knownA env e=true then valueS env e else 0
theorem leaf_value {env:List (ByteArray × Int)} {e:Ex} (hop:e.op=1∨e.op=2∨e.op=3∨e.op=24) (h:knownA env e=knownN env e):leafS env e.op e.n e.name (e.args.map (valueS env))=rvalS env e:=by
 unfold rvalS leafS
 rw[h,valueS_eq]
 unfold knownN
 rcases hop with h1 | h1 | h1 | h1
 ·simp[h1]
 ·simp only[h1]
  cases findS env e.name<;>simp
 ·simp only[h1]
  cases h2:atS env e.name 0<;>simp
 ·simp only[h1]
  cases h2:atS env e.name 0<;>simp
set_option maxRecDepth 100000 in
set_option maxHeartbeats 4000000 in
theorem rvalue_any (env:List (ByteArray × Int)) (a:Option Addr) (cap:Nat) (e:Ex):∀ (ae:Option Addr) (ce:Nat) (w:World),OkE e→e.nodes.length≤1073741824→SigsIn w env a cap→ExIn w e ae ce →
  Calls Tryz.prog 227 #[exVal e ae ce,.slice a env.length cap] w fun r w'=>r=.returned (.tuple #[.int .i64 (rvalS env e),.int .i64 (errK (knownA env e))])∧Below w.heap.size w w':=by
 induction e using Ex.ind with
 | h e ih =>
  intro ae ce w hok hn hS hE
  obtain⟨op,n,s,args⟩:=e
  have hlen:=hE.2.2.1
  have hadr:=hE.2.addr
  have hnl:(Ex.mk op n s args).nodes.length=(nodesTo args args.length).length+1:=by rw[nodes_cons];simp[Ex.args_mk]
  have hsz:=hE.1
  simp only[Ex.args_mk,Ex.name_mk] at hlen hadr hsz
  have HN:=Lib.hid (⟨hn,hnl⟩:_∧_)
  have HS:=Lib.hid hS
  have HE:=Lib.hid hE
  have HOK:=Lib.hid hok
  have HIH:=Lib.hid ih
  have HA:=Lib.hid hadr
  clear hn hS hE ih hadr hnl hok
  simp only[exVal,Ex.op_mk,Ex.n_mk,Ex.name_mk,Ex.args_mk]
  go_enter Tryz.func227, Tryz.ntmps227
  go_wp2_with fail
  go_loopw [6,7] (fun v i wr=>∃ k:Nat,i=.int .i64 k∧k≤args.length∧(∀ j (hj:j < args.length),j < k→knownA env (args[j]'hj)=true) ∧
   wr.ownsRow w.heap.size 3 1 v k ((valsTo env args k).map (Value.int .i64))∧Below w.heap.size w wr∧wr.heap[w.heap.size]? = some (.cells #[.int .i64 op,.int .i64 n,.string s,.slice ae args.length ce] 55 (0,0))) (fun _ i _=>args.length - (intOf i).toNat)
  case atStart=>exact⟨0,rfl,Nat.zero_le _,fun _ _ h=>absurd h (by omega),World.ownsRow_nil _ _ _ _,bel,heap_alloc_new' _ _⟩
  case round =>
   obtain⟨k,rfl,hk,hall,hown,hBr,hb0⟩:=hrel
   have HAll:=Lib.hid hall
   clear hall
   have hlt0:=lt_of_block hb0
   by_cases hlt:k < args.length
   ·obtain⟨b,off,ha⟩:=HA.out.resolve_left (by omega)
    subst ha
    obtain⟨a',cap',g0,g1,g2,g3,hX⟩:=HE.out.2.get rfl hlt
    have kk:=keeps_of_below hBr
    have c0:=kk _ _ g0
    have c1:=kk _ _ g1
    have c2:=kk _ _ g2
    have c3:=kk _ _ g3
    simp only[Ex.args_mk] at c0 c1 c2 c3
    have b3:wr.cell? ⟨w.heap.size,3,none⟩=some (.slice (some ⟨b,off,none⟩) args.length ce):=by simp[World.cell?,hb0]
    have hrm:=nodes_room args k hlt
    have hn':=HN.out
    have hm:args[k]∈(Ex.mk op n s args).args:=List.getElem_mem hlt
    have hC:=HIH.out _ hm a' cap' wr (HOK.out.arg hm) (by omega) (HS.out.keep (keeps_of_below hBr)) (hX.keep (keeps_of_below hBr))
    have HC:=Lib.hid hC
    simp only[Ex.args_mk,exVal] at HC
    have Hon:=Lib.hid (valsTo_succ env args k hlt)
    have HR:=Lib.hid (⟨hown,hBr,hb0⟩:_∧_∧_)
    have hz:=hBr.size
    have HM:=Lib.hid hm
    clear g0 g1 g2 g3 kk hC hrm hn' hX hown hBr hb0 hm
    cases hkn:knownA env (args[k]'hlt)
    ·have HF:=Lib.hid (knownA_arg HM.out hkn)
     go_wp2_with fail
     refine HC.out.mono ?_
     rintro e w2 ⟨rfl,hb2⟩
     rw[hkn]
     have HB2:=Lib.hid hb2
     clear hb2 c0 c1 c2 c3
     go_wp2_with fail
     have hR:rvalS env (.mk op n s args)=0:=by unfold rvalS;rw[HF.out];simp
     go_ret2
     exact⟨by rw[hR,HF.out];rfl,HR.out.2.1.trans (HB2.out.mono hz)⟩
    ·have hrv:rvalS env (args[k]'hlt)=valueS env (args[k]'hlt):=by unfold rvalS;rw[if_pos hkn]
     go_wp2_with fail
     refine HC.out.mono ?_
     rintro e w2 ⟨rfl,hb2⟩
     rw[hkn,hrv]
     have HB2:=Lib.hid hb2
     have HO2:=Lib.hid (ownsRow_below HR.out.1 hb2)
     have hz2:=hb2.size
     have HKn:=Lib.hid hkn
     clear hb2 c0 c1 c2 c3 hkn hrv
     go_wp2_with (at_builtin;go_must (refine own_app elemI _ rfl (.tmp 30) (.tmp 32) rfl w.heap.size _ k _ rfl HO2.out [.int .i64 (valueS env (args[k]'hlt))] rfl (by simp[Value.oneCell']) _ 1 rfl (by simp) (by omega) (by omega) ?_))
     intro v' w3 hown3 hg3
     have H3:=Lib.hid (⟨hown3,hg3⟩:_∧_)
     clear hown3 hg3
     go_wp2_with fail
     go_roundw
     case rel =>
      obtain⟨hown3,hg3⟩:=H3.out
      obtain⟨hown,hBr,hb0⟩:=HR.out
      have hold:∀ (q:Nat) (c:Array Value) (t:TypeId),wr.heap[q]? = some (.cells c t (0,0))→t≠3→w3.heap[q]? = some (.cells c t (0,0)):=by
       intro q c t hq ht
       have h1:=(HB2.out.block _ (lt_of_block hq)).trans hq
       have h2:(w2.alloc (.cells #[.int .i64 (valueS env (args[k]'hlt))] 3)).heap[q]? = some (.cells c t (0,0)):=by rw[Below.heap_alloc _ _ _ (lt_of_block h1)];exact h1
       exact(hg3.block _ (lt_of_block h2) (ownsRow_ne hown hq ht)).trans h2
      have hz:=hBr.size
      refine⟨k+1,by go_num,by omega,fun j hj hjk=>?_,by rw[Hon.out,List.map_append];exact hown3,?_,hold _ _ _ hb0 (by decide)⟩
      ·by_cases e:j=k
       ·subst e;exact HKn.out
       ·exact HAll.out j hj (by omega)
      refine Below.grown ((hBr.trans (HB2.out.mono hz)).alloc (by omega) _) hg3 (by simp;omega) (fun q hq=>(hown.lt q hq).1)
     case measure=>simp[intOf];omega
   ·obtain rfl:k=args.length:=by omega
    have hkA:knownA env (.mk op n s args)=knownN env (.mk op n s []):=knownA_self (e:=.mk op n s args) (fun j hj=>HAll.out j hj hj)
    have hown':wr.ownsRow w.heap.size 3 1 u6 (valsTo env args args.length).length ((valsTo env args args.length).map (Value.int .i64)):=by
     rw[valsTo_len _ _ _ (Nat.le_refl _)];exact hown
    have hT:valsTo env args args.length=args.map (valueS env):=by unfold valsTo;rw[List.take_of_length_le (Nat.le_refl _)]
    have hV:Hid ((op=1∨op=2∨op=3∨op=24)→rvalS env (.mk op n s args)=leafS env op n s (valsTo env args args.length)):=by
     intro hop;rw[hT];exact(leaf_value (e:=.mk op n s args) hop hkA).symm
    have hO:Hid (¬ (op=1∨op=2∨op=3∨op=24)→rvalS env (.mk op n s args)=operateS op (valsTo env args args.length)∧knownA env (.mk op n s args)=true):=by
     intro hop
     have hkt:knownA env (.mk op n s args)=true:=by rw[hkA];unfold knownN;rw[Ex.op_mk,if_neg (by omega),if_neg (by omega)]
     refine⟨?_,hkt⟩
     unfold rvalS;rw[if_pos hkt,valueS_eq,hT]
     rw[if_neg (show ¬ (Ex.mk op n s args).op=1 from fun h=>hop (Or.inl h)),if_neg (show ¬ (Ex.mk op n s args).op=2 from fun h=>hop (Or.inr (Or.inl h))),if_neg (show ¬ (Ex.mk op n s args).op=3 from fun h=>hop (Or.inr (Or.inr (Or.inl h)))),if_neg (show ¬ (Ex.mk op n s args).op=24 from fun h=>hop (Or.inr (Or.inr (Or.inr h))))]
     rfl
    have hrng:∀ v∈valsTo env args args.length,Rng v:=by
     intro v hv
     rw[hT] at hv
     obtain⟨x,hx,rfl⟩:=List.mem_map.1 hv
     exact rng_value env x (HOK.out.arg hx)
    have hLl:=valsTo_len env args args.length (Nat.le_refl _)
    have hopk:=operands_ok (node_ok HOK.out.self).2.2.2 (node_ok HOK.out.self).1 (node_ok HOK.out.self).2.1
    simp only[Ex.op_mk,Ex.args_mk] at hopk
    clear hT
    generalize valsTo env args args.length=L at hown' hV hO hrng hLl
    rw[← hLl] at hopk
    obtain⟨al,cl,hv,hints⟩:=ints_of_own hown' (by omega)
    subst hv
    have b0:wr.cell? ⟨w.heap.size,0,none⟩=some (.int .i64 op):=by simp[World.cell?,hb0]
    have b1:wr.cell? ⟨w.heap.size,1,none⟩=some (.int .i64 n):=by simp[World.cell?,hb0]
    have b2:wr.cell? ⟨w.heap.size,2,none⟩=some (.string s):=by simp[World.cell?,hb0]
    have b3:wr.cell? ⟨w.heap.size,3,none⟩=some (.slice ae args.length ce):=by simp[World.cell?,hb0]
    have hz:=hBr.size
    have hSr:=HS.out.keep (keeps_of_below hBr)
    have HL:=Lib.hid (fun h=>fr (W0:=w) (B:=w.heap.size) (rleaf_any env a cap op n s ae args.length ce L al cl wr hsz hSr hints h (fun h3=>by have:=hopk.1 h3;omega)) hBr hz)
    have HOp:=Lib.hid (fun h=>fr (W0:=w) (B:=w.heap.size) (roperate_any op L al cl wr hints h (fun h'=>by have:=hopk.2.1 h';omega) (fun i=>rng_getD hrng i)) hBr hz)
    have HK:=Lib.hid hopk
    have HKA:=Lib.hid hkA
    clear hown hown' hints hb0 hrng hLl hopk hBr hSr hkA
    by_cases hop:op=1∨op=2∨op=3∨op=24
    ·have HL':=Lib.hid (HL.out hop)
     have hv:=Lib.hid (hV.out hop)
     have hb:(op == 1 || (op == 2 || op == 3 || op == 24))=true:=by simp;omega
     have Hop:=Lib.hid hop
     clear hop
     go_wp2_with (first | (go_at_call 262;refine(rasks_any _ _).mono ?_;rintro e w' ⟨rfl,rfl⟩;rw[hb]) | (go_at_call 263;refine HL'.out.mono ?_;rintro e w1 ⟨rfl,hc1,hf1,hz1,hb1⟩))
     go_ret2
     exact⟨by rw[hv.out,HKA.out];rfl,by assumption⟩
    ·have HO':=Lib.hid (HOp.out (HK.out.2.2 (by omega) (by omega) (by omega)))
     have hv:=Lib.hid (hO.out hop)
     have hb:(op == 1 || (op == 2 || op == 3 || op == 24))=false:=by simp;omega
     clear hop
     go_wp2_with (first | (go_at_call 262;refine(rasks_any _ _).mono ?_;rintro e w' ⟨rfl,rfl⟩;rw[hb]) | (go_at_call 264;refine HO'.out.mono ?_;rintro e w1 ⟨rfl,hc1,hf1,hz1,hb1⟩))
     go_ret2
     exact⟨by rw[hv.out.1,hv.out.2];rfl,by assumption⟩
end Go.Proofs.YtcplmcjbkpmhdaaGreatDoor
namespace Go.Proofs.YtcplmcjbkpmhdaaGreatDoor
open Go.RowKit
theorem index_cons91 (b:UInt8) (l:List UInt8):Lib.index (b::l) [91]=if b=91 then 0 else if Lib.index l [91]=-1 then -1 else Lib.index l [91]+1:=by
 have h:Lib.index (b::l) [91]=if [91].isPrefixOf (b::l) then 0 else if Lib.index l [91] == -1 then -1 else Lib.index l [91]+1:=rfl
 have h2:([91]:List UInt8).isPrefixOf (b::l)=(91 == b):=by simp[List.isPrefixOf]
 rw[h,h2]
 by_cases e:b=91
 ·subst e;rfl
 ·rw[if_neg e]
  have:((91:UInt8) == b)=false:=by simpa using fun h=>e h.symm
  rw[this]
  simp
theorem cut_hit:∀ (A r:List UInt8),(91:UInt8)∉A→Lib.index (A++91::r) [91]=A.length
 | [],r,_=>by rw[List.nil_append,index_cons91,if_pos rfl];rfl
 | b::A,r,h=>by
  have hb:b≠91:=fun e=>h (by rw[e];exact List.mem_cons_self)
  have ih:=cut_hit A r (fun hh=>h (List.mem_cons_of_mem _ hh))
  rw[List.cons_append,index_cons91,if_neg hb,ih,if_neg (by omega)]
  simp
theorem cut_eq (A r:List UInt8) (h:(91:UInt8)∉A):Lib.cut (A++91::r) [91]=(A,r,true):=by
 unfold Lib.cut
 rw[cut_hit A r h,if_pos (by omega)]
 simp
theorem index_split:∀ (l:List UInt8),0≤Lib.index l [91]→l=l.take (Lib.index l [91]).toNat++91::l.drop ((Lib.index l [91]).toNat+1)
 | [],h=>by exfalso;exact absurd h (by decide)
 | b::l,h=>by
  rw[index_cons91] at h⊢
  by_cases e:b=91
  ·subst e;simp
  ·rw[if_neg e] at h⊢
   by_cases e1:Lib.index l [91]=-1
   ·rw[if_pos e1] at h;exact absurd h (by decide)
   ·have hge:=Lib.index_ge l [91]
    have ih:=index_split l (by omega)
    rw[if_neg e1]
    obtain⟨k,hk⟩:=Int.eq_ofNat_of_zero_le (show 0≤Lib.index l [91] by omega)
    rw[hk] at ih⊢
    have:((k:Int)+1).toNat=k+1:=by omega
    rw[this]
    simp only[List.take_succ_cons,List.drop_succ_cons,List.cons_append]
    rw[Int.toNat_natCast] at ih
    rw[← ih]
theorem nameB_no91 {A:List UInt8} (h:nameB A=true):(91:UInt8)∉A:=by
 intro hm
 have hw:wordB A=true:=by
  unfold nameB at h
  simp only[Bool.and_eq_true] at h
  simp_all
 unfold wordB at hw
 rw[Bool.and_eq_true] at hw
 have:=List.all_eq_true.1 hw.1 _ hm
 exact absurd this (by decide)
theorem elemB_iff (l:List UInt8):elemB l=true↔∃ A x,l=A++[91,x,93]∧nameB A=true∧48≤x.toNat∧x.toNat < 56:=by
 constructor
 ·intro h
  unfold elemB at h
  simp only[Bool.and_eq_true] at h
  obtain⟨⟨h1,h2⟩,h3⟩:=h
  unfold Lib.cut at h1 h2 h3
  split at h1
  ·rename_i hi
   rw[if_pos hi] at h2 h3
   have hs:=index_split l hi
   dsimp only at h2 h3
   have hl:([91]:List UInt8).length=1:=rfl
   rw[hl] at h3
   generalize l.drop ((Lib.index l [91]).toNat+1)=r at hs h3
   by_cases hr:r.length=2
   ·obtain⟨x,y,rfl⟩:∃ x y,r=[x,y]:=by
     match r,hr with
     | [x,y],_=>exact⟨x,y,rfl⟩
    rw[elemTail_two] at h3
    obtain⟨hy,hx,hx'⟩:=of_decide_eq_true h3
    have hy':y=93:=UInt8.toNat_inj.1 hy
    exact⟨_,x,by rw[← hy'];exact hs,h2,hx,hx'⟩
   ·rw[elemTail_no hr] at h3;exact absurd h3 (by decide)
  ·simp at h1
 ·rintro ⟨A,x,rfl,h2,hx,hx'⟩
  unfold elemB
  have hc:=cut_eq A [x,93] (nameB_no91 h2)
  have:A++[91,x,93]=A++91::[x,93]:=rfl
  rw[this,hc]
  simp only[Bool.and_eq_true]
  exact⟨⟨trivial,h2⟩,by rw[elemTail_two];exact decide_eq_true ⟨rfl,hx,hx'⟩⟩
theorem elemB_places (s:ByteArray) (m:Nat) (hm:s.size=m+3) (b0:m < s.size) (b1:m+1 < s.size) (b2:m+2 < s.size) :
  elemB s.data.toList=(decide ((s[m+2]'b2).toNat=93) && decide ((s[m]'b0).toNat=91) && decide (48≤(s[m+1]'b1).toNat∧(s[m+1]'b1).toNat < 56) && nameB (s.data.toList.take m)):=by
 have hlen:s.data.toList.length=m+3:=by simpa using hm
 have hdec:s.data.toList=s.data.toList.take m++[s[m]'(by omega),s[m+1]'(by omega),s[m+2]'(by omega)]:=by
  conv=>lhs;rw[← List.take_append_drop m s.data.toList]
  congr 1
  rw[List.drop_eq_getElem_cons (by omega),List.drop_eq_getElem_cons (i:=m+1) (by omega),List.drop_eq_getElem_cons (i:=m+1+1) (by omega),List.drop_eq_nil_of_le (by omega)]
  rfl
 generalize hA:s.data.toList.take m=A at hdec⊢
 generalize (s[m]'(by omega))=x at hdec⊢
 generalize (s[m+1]'(by omega))=y at hdec⊢
 generalize (s[m+2]'(by omega))=z at hdec⊢
 rw[Bool.eq_iff_iff,elemB_iff,hdec]
 simp only[Bool.and_eq_true,decide_eq_true_eq]
 constructor
 ·rintro ⟨A',x',he,hn,h1,h2⟩
  have hl:=congrArg List.length he
  simp only[List.length_append,List.length_cons,List.length_nil] at hl
  obtain⟨e1,e2⟩:=List.append_inj he (by omega)
  simp only[List.cons.injEq,and_true] at e2
  obtain⟨rfl,rfl,rfl⟩:=e2
  exact⟨⟨⟨rfl,rfl⟩,h1,h2⟩,by rw[e1];exact hn⟩
 ·rintro ⟨⟨⟨hz,hx⟩,h1,h2⟩,hn⟩
  exact⟨A,y,by rw[UInt8.toNat_inj.1 (show x.toNat=(91:UInt8).toNat from hx),UInt8.toNat_inj.1 (show z.toNat=(93:UInt8).toNat from hz)],hn,h1,h2⟩
theorem elemB_small (l:List UInt8) (h:l.length < 4):elemB l=false:=by
 cases hc:elemB l
 ·rfl
 ·obtain⟨A,x,rfl,hn,_⟩:=(elemB_iff l).1 hc
  simp only[List.length_append,List.length_cons,List.length_nil] at h
  have:A=[]:=List.length_eq_zero_iff.1 (by omega)
  subst this
  exact absurd hn (by decide)
theorem str_take (s:ByteArray) (m:Nat) (h:m≤s.size):(s.extract 0 m).data.toList=s.data.toList.take m:=by
 simp[ByteArray.data_extract]
set_option maxHeartbeats 2000000 in
theorem rSplit_any (s:ByteArray) (w:World) (hs:s.size≤1073741824) :
  Calls Tryz.prog 179 #[.string s] w fun e w'=>(∃ (t:ByteArray) (i:Int),e=.returned (.tuple #[.string t,.int .i64 i,.bool (elemB s.data.toList)]))∧Below w.heap.size w w':=by
 by_cases h4:s.size < 4
 ·have HE:=Lib.hid (elemB_small s.data.toList (by simpa using h4))
  go_enter Tryz.func179, Tryz.ntmps179
  go_wp2_with fail
  go_ret3
  exact⟨⟨_,_,by rw[HE.out];rfl⟩,Below.refl _ _⟩
 ·obtain⟨m,hm⟩:∃ m,s.size=m+3:=⟨s.size - 3,by omega⟩
  have HT:=Lib.hid (str_take s m (by omega))
  have i1:(s.size:Int) - 1=((m+2:Nat):Int):=by omega
  have i2:(s.size:Int) - 2=((m+1:Nat):Int):=by omega
  have i3:(s.size:Int) - 3=((m:Nat):Int):=by omega
  have b2:m+2 < s.size:=by omega
  have b1:m+1 < s.size:=by omega
  have b0:m < s.size:=by omega
  have HE:=Lib.hid (elemB_places s m hm b0 b1 b2)
  have HM:=Lib.hid hm
  clear hm
  have q1:(s[m+1]'b1).toNat < 256:=UInt8.toNat_lt _
  have HN:=Lib.hid (fun w=>risName_any (s.extract 0 m) w (by rw[ByteArray.size_extract];omega))
  rw[HT.out] at HN
  have HR:∀ c,elemB s.data.toList=c→Hid (elemB s.data.toList=c):=fun _ h=>h
  by_cases h93:(s[m+2]'b2).toNat=93
  ·by_cases h91:(s[m]'b0).toNat=91
   ·by_cases h48:(s[m+1]'b1).toNat < 48
    ·have HX:=HR false (by rw[HE.out,decide_eq_false (p:=48≤_∧_) (by omega)];simp)
     go_enter Tryz.func179, Tryz.ntmps179
     go_wp2_with fail
     go_ret3
     exact⟨⟨_,_,by rw[HX.out];rfl⟩,Below.refl _ _⟩
    ·by_cases h56:(s[m+1]'b1).toNat < 56
     ·have HX:=HR (nameB (s.data.toList.take m)) (by rw[HE.out,decide_eq_true h93,decide_eq_true h91,decide_eq_true (p:=48≤_∧_) ⟨by omega,h56⟩];simp)
      cases hn:nameB (s.data.toList.take m)
      all_goals
       go_enter Tryz.func179, Tryz.ntmps179
       go_wp2_with (go_at_call 224;refine(HN.out _).mono ?_;rintro e w1 ⟨rfl,hb1⟩;rw[hn])
       go_ret3
       exact⟨⟨_,_,by rw[HX.out,hn];rfl⟩,by assumption⟩
     ·have HX:=HR false (by rw[HE.out,decide_eq_false (p:=48≤_∧_) (by omega)];simp)
      go_enter Tryz.func179, Tryz.ntmps179
      go_wp2_with fail
      go_ret3
      exact⟨⟨_,_,by rw[HX.out];rfl⟩,Below.refl _ _⟩
   ·have HX:=HR false (by rw[HE.out,decide_eq_false h91];simp)
    have hne:(((s[m]'b0).toNat:Int) != 91)=true:=by simp;omega
    go_enter Tryz.func179, Tryz.ntmps179
    go_wp2_with fail
    go_ret3
    exact⟨⟨_,_,by rw[HX.out];rfl⟩,Below.refl _ _⟩
  ·have HX:=HR false (by rw[HE.out,decide_eq_false h93];simp)
   go_enter Tryz.func179, Tryz.ntmps179
   go_wp2_with fail
   go_ret3
   exact⟨⟨_,_,by rw[HX.out];rfl⟩,Below.refl _ _⟩
set_option maxHeartbeats 400000 in
theorem rIsVar_any (s:ByteArray) (w:World) (hs:s.size≤1073741824) :
  Calls Tryz.prog 250 #[.string s] w fun e w'=>e=.returned (.bool (varB s.data.toList))∧Below w.heap.size w w':=by
 have hE:=Lib.hid (rSplit_any s w hs)
 go_enter Tryz.func250, Tryz.ntmps250
 go_wp2_with fail
 refine hE.out.mono ?_
 rintro e w1 ⟨⟨t,i,rfl⟩,hb1⟩
 have hN:=Lib.hid ((risName_any s w1 hs).mono fun e w' h=>(⟨h.1,hb1.trans (h.2.mono hb1.size)⟩:_∧Below w.heap.size w w'))
 cases he:elemB s.data.toList
 all_goals go_wp2_with (go_at_call 224;refine hN.out.mono ?_;rintro e w2 ⟨rfl,hb2⟩)
 all_goals go_ret
 all_goals exact⟨by unfold varB;rw[he];rfl,by assumption⟩
end Go.Proofs.YtcplmcjbkpmhdaaGreatDoor
namespace Go.Proofs.YtcplmcjbkpmhdaaGreatDoor
open Go.RowKit
set_option maxHeartbeats 8000000 in
theorem rwrong_any (op n:Int) (s:ByteArray) (args:List Ex) (a:Option Addr) (cap:Nat) (w:World) (hs:s.size≤1073741824) (hl:args.length≤1073741824) :
  Calls Tryz.prog 205 #[.agg #[.int .i64 op,.int .i64 n,.string s,.slice a args.length cap]] w fun e w'=>e=.returned (.int .i64 (nodeS (.mk op n s args)))∧Below w.heap.size w w':=by
 go_enter Tryz.func205, Tryz.ntmps205
 go_wp2_with (first | (go_at_call 248;refine(rnamed_any _ _).mono ?_;rintro e w' ⟨rfl,rfl⟩) | (go_at_call 249;refine(rArity_any _ _).mono ?_;rintro e w' ⟨rfl,rfl⟩) | (go_at_call 250;go_must (refine(fr (W0:=w) (B:=w.heap.size) (rIsVar_any _ _ hs) bel sz).mono ?_;rintro e w1 ⟨rfl,hc1,hf1,hz1,hb1⟩;try simp only[World.size_alloc,World.size_setCell,World.size_drew,World.heap_drewN] at hz1;try (have hzl0:w.heap.size < w1.heap.size:=by omega);try (have hzl1:w.heap.size+1 < w1.heap.size:=by omega);try (have hzl2:w.heap.size+2 < w1.heap.size:=by omega);try (have hzl3:w.heap.size+3 < w1.heap.size:=by omega);try (have hzl4:w.heap.size+4 < w1.heap.size:=by omega);try (have hzl5:w.heap.size+5 < w1.heap.size:=by omega))) | (go_at_call 224;go_must (refine(fr (W0:=w) (B:=w.heap.size) (risName_any _ _ hs) bel sz).mono ?_;rintro e w1 ⟨rfl,hc1,hf1,hz1,hb1⟩;try simp only[World.size_alloc,World.size_setCell,World.size_drew,World.heap_drewN] at hz1;try (have hzl0:w.heap.size < w1.heap.size:=by omega);try (have hzl1:w.heap.size+1 < w1.heap.size:=by omega);try (have hzl2:w.heap.size+2 < w1.heap.size:=by omega);try (have hzl3:w.heap.size+3 < w1.heap.size:=by omega);try (have hzl4:w.heap.size+4 < w1.heap.size:=by omega);try (have hzl5:w.heap.size+5 < w1.heap.size:=by omega))))
 all_goals go_ret
 all_goals refine⟨?_,bel⟩
 all_goals congr 2
 all_goals simp_all [nodeS,operandsB,Ex.op,Ex.n,Ex.name,Ex.args,ByteArray.toList_eq]
 all_goals first | omega | exact decide_eq_true (by omega) | exact decide_eq_false (by omega) | grind
end Go.Proofs.YtcplmcjbkpmhdaaGreatDoor
namespace Go.Proofs.YtcplmcjbkpmhdaaGreatDoor
open Go.RowKit
structure Seen where
 n:Nat
 d:Nat
 f:Int
 vs:List ByteArray
 ar:List ByteArray
def stepW (st:Seen) (dp:Nat) (e:Ex):Seen:=⟨st.n+1,max st.d dp,if st.f=0 then nodeS e else st.f,addName [2] st.vs e,addName [3,24] st.ar e⟩
noncomputable def seeS (e:Ex):Nat→Seen→Seen:=e.para fun e rs dp st=>rs.foldl (fun st r=>r (dp+1) st) (stepW st dp e)
theorem seeS_eq (e:Ex) (dp:Nat) (st:Seen):seeS e dp st=e.args.foldl (fun st x=>seeS x (dp+1) st) (stepW st dp e):=by
 unfold seeS
 rw[Ex.para_eq,List.foldl_map]
noncomputable def seeTo (l:List Ex) (dp:Nat) (st:Seen) (k:Nat):Seen:=(l.take k).foldl (fun st x=>seeS x (dp+1) st) st
theorem seeTo_succ (l:List Ex) (dp:Nat) (st:Seen) (k:Nat) (h:k < l.length):seeTo l dp st (k+1)=seeS (l[k]'h) (dp+1) (seeTo l dp st k):=by
 unfold seeTo
 rw[List.take_succ_eq_append_getElem h,List.foldl_append]
 rfl
theorem seeTo_all (e:Ex) (dp:Nat) (st:Seen):seeTo e.args dp (stepW st dp e) e.args.length=seeS e dp st:=by
 rw[seeS_eq];unfold seeTo;rw[List.take_of_length_le (Nat.le_refl _)]
theorem firstE_append (l l':List Ex):firstE (l++l')=if firstE l=0 then firstE l' else firstE l:=by
 induction l with
 | nil=>simp[firstE]
 | cons e l ih =>
  have h1:firstE (e::l++l')=if nodeS e=0 then firstE (l++l') else nodeS e:=rfl
  have h2:firstE (e::l)=if nodeS e=0 then firstE l else nodeS e:=rfl
  by_cases h:nodeS e=0
  ·rw[if_pos h] at h1 h2
   simp only[h1,h2,ih]
  ·rw[if_neg h] at h1 h2
   simp only[h1,h2,if_neg h]
theorem seeS_all (e:Ex):∀ (dp:Nat) (st:Seen),1≤dp→(seeS e dp st).n=st.n+e.nodes.length∧(seeS e dp st).d=max st.d (dp+e.depth - 1)∧(seeS e dp st).f=(if st.f=0 then firstE e.nodes else st.f) ∧
  (seeS e dp st).vs=e.nodes.foldl (addName [2]) st.vs∧(seeS e dp st).ar=e.nodes.foldl (addName [3,24]) st.ar:=by
 induction e using Ex.ind with
 | h e ih =>
  intro dp st hdp
  have key:∀ (l:List Ex),(∀ a,a∈l→a∈e.args)→∀ st:Seen,(l.foldl (fun st x=>seeS x (dp+1) st) st).n=st.n+((l.map Ex.nodes).flatten).length ∧
    (l.foldl (fun st x=>seeS x (dp+1) st) st).d=(l.map Ex.depth).foldl (fun m d=>max m (dp+d)) st.d ∧
    (l.foldl (fun st x=>seeS x (dp+1) st) st).f=(if st.f=0 then firstE ((l.map Ex.nodes).flatten) else st.f) ∧
    (l.foldl (fun st x=>seeS x (dp+1) st) st).vs=((l.map Ex.nodes).flatten).foldl (addName [2]) st.vs ∧
    (l.foldl (fun st x=>seeS x (dp+1) st) st).ar=((l.map Ex.nodes).flatten).foldl (addName [3,24]) st.ar:=by
   intro l
   induction l with
   | nil=>intro _ st;refine⟨rfl,rfl,?_,rfl,rfl⟩;simp[firstE]
   | cons x l ihl =>
    intro hm st
    obtain⟨a1,a2,a3,a4,a5⟩:=ih x (hm x List.mem_cons_self) (dp+1) st (by omega)
    obtain⟨b1,b2,b3,b4,b5⟩:=ihl (fun a ha=>hm a (List.mem_cons_of_mem _ ha)) (seeS x (dp+1) st)
    simp only[List.foldl_cons,List.map_cons,List.flatten_cons,List.length_append,List.foldl_append]
    refine⟨by rw[b1,a1];omega,?_,?_,by rw[b4,a4],by rw[b5,a5]⟩
    ·rw[b2,a2]
     congr 1
     omega
    ·rw[b3,a3,firstE_append]
     by_cases h0:st.f=0
     ·simp[h0]
     ·simp[h0]
  obtain⟨b1,b2,b3,b4,b5⟩:=key e.args (fun _ h=>h) (stepW st dp e)
  rw[seeS_eq,Ex.nodes_eq]
  simp only[List.length_cons,List.foldl_cons]
  refine⟨by rw[b1];simp only[stepW];omega,?_,?_,b4,b5⟩
  ·rw[b2,Ex.depth_eq]
   have hf:∀ (l:List Nat) (m:Nat),l.foldl (fun m d=>max m (dp+d)) (max m dp)=max m (dp+l.foldl max 0):=by
    intro l
    induction l with
    | nil=>intro m;simp
    | cons x l ihl =>
     intro m
     simp only[List.foldl_cons]
     have e1:max (max m dp) (dp+x)=max (max m (dp+x)) dp:=by omega
     rw[e1,ihl,foldl_max l (max 0 x)]
     omega
   simp only[stepW]
   rw[hf]
   omega
  ·rw[b3]
   simp only[stepW,firstE]
   by_cases h0:st.f=0
   ·simp only[h0,if_true]
   ·simp[h0]
theorem seeS_start (e:Ex):seeS e 1 ⟨0,0,0,[],[]⟩=⟨e.nodes.length,e.depth,firstE e.nodes,namesS [2] e,namesS [3,24] e⟩:=by
 obtain⟨a1,a2,a3,a4,a5⟩:=seeS_all e 1 ⟨0,0,0,[],[]⟩ (Nat.le_refl _)
 have hd:1≤e.depth:=by rw[Ex.depth_eq];omega
 cases h:seeS e 1 ⟨0,0,0,[],[]⟩ with
 | mk n d f vs ar =>
  rw[h] at a1 a2 a3 a4 a5
  simp only[Seen.mk.injEq]
  exact⟨by simpa using a1,by have:=a2;simp only at this;omega,by simpa using a3,a4,a5⟩
def InvW (B p:Nat) (st:Seen) (w:World):Prop :=
 B≤p∧∃ v1 v2,w.heap[p]? = some (.cells #[.int .i64 st.n,.int .i64 st.d,.int .i64 st.f,v1,v2] 134 (0,0)) ∧
  w.ownsRow B 9 1 v1 st.vs.length (st.vs.map Value.string)∧w.ownsRow B 9 1 v2 st.ar.length (st.ar.map Value.string)∧(∀ k,v1.ownBlock=some k→v2.ownBlock≠some k)
theorem InvW.keep {B p:Nat} {st:Seen} {w w':World} (h:InvW B p st w) (hb:Below w.heap.size w w'):InvW B p st w':=by
 obtain⟨h0,v1,v2,h1,h2,h3,h4⟩:=h
 exact⟨h0,v1,v2,by rw[hb.block _ (lt_of_block h1)];exact h1,ownsRow_below h2 hb,ownsRow_below h3 hb,h4⟩
end Go.Proofs.YtcplmcjbkpmhdaaGreatDoor
