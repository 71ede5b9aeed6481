/- nfa.compile. -/
import Derived.Test.YthojpomoflhbcaaGreatDoorM19
import Derived.Test.YthojpomoflhbcaaGreatDoorM08
import Derived.Test.YthojpomoflhbcaaGreatDoorM27
import Derived.Test.YthojpomoflhbcaaGreatDoorM28
import Derived.Test.YthojpomoflhbcaaGreatDoorM18
import Derived.Test.YthojpomoflhbcaaGreatDoorMSh
set_option linter.unusedSimpArgs false
set_option linter.unusedVariables false
set_option linter.unnecessarySimpa false
namespace Go.Proofs.YthojpomoflhbcaaGreatDoor
open Go.RowKit
attribute [local go_sem ↓] Go.wp_at_zero Go.wp_at_succ
theorem elemNF:Elem Tryz.prog 131 33 3:=Elem.of Tryz.underlying131 (by kernel_rfl) (z:=.agg #[.int .i64 0,.slice none 0 0,.slice none 0 0]) (bytes:=56) rfl (by decide) (by decide)
theorem partsN_map (ps:List NfaD):partsN (ps.map some)=some ps:=by
 induction ps with
 | nil=>rfl
 | cons p ps ih=>simp only[List.map_cons,partsN,ih,Option.map_some]
theorem partsN_fail:∀ {l:List (Option NfaD)} {k:Nat} (hk:k < l.length),l[k]'hk=none→partsN l=none:=by
 intro l
 induction l with
 | nil=>intro k hk;simp at hk
 | cons a l ih =>
  intro k hk h
  cases a with
  | none=>rfl
  | some n =>
   cases k with
   | zero=>simp at h
   | succ k =>
    rw[partsN,ih (k:=k) (by simpa using hk) (by simpa using h)]
    rfl
theorem list2 {α:Type} {l:List α} (h:l.length=2):∃ x y,l=[x,y]:=by
 match l with
 | [x,y]=>exact⟨x,y,rfl⟩
theorem hs3 {W:World} {k g:Nat} {o:Obj} {u0 u1 u2:Value} (h:W.heap[g]? = some o) (hne:g≠k):(((W.setCell ⟨k,0,none⟩ u0).setCell ⟨k,1,none⟩ u1).setCell ⟨k,2,none⟩ u2).heap[g]? = some o:=by
 rw[Below.heap_setCell _ _ _ _ hne,Below.heap_setCell _ _ _ _ hne,Below.heap_setCell _ _ _ _ hne];exact h
theorem hs34 {W:World} {k:Nat} {t:TypeId} {z0 z1 z2 z3 u0 u1 u2:Value} (h:W.heap[k]? = some (.cells #[z0,z1,z2,z3] t (0,0))):(((W.setCell ⟨k,0,none⟩ u0).setCell ⟨k,1,none⟩ u1).setCell ⟨k,2,none⟩ u2).heap[k]? = some (.cells #[u0,u1,u2,z3] t (0,0)):=by
 have h0:=heap_setCell_same _ k 0 _ t u0 h
 have h1:=heap_setCell_same _ k 1 _ t u1 h0
 have h2:=heap_setCell_same _ k 2 _ t u2 h1
 rw[h2];rfl
theorem NfaRet.fin {q:Nat→Bool} {r:Option NfaD} {w7 w8:World} {e:Ending} (h:NfaRet q r w7 e w8):∃ (st:Int) (ea:Option Addr) (en ec:Nat) (aa:Option Addr) (an ac:Nat) (er:Int),e=.returned (.tuple #[.agg #[.int .i64 st,.slice ea en ec,.slice aa an ac],.int .i64 er])∧Below w7.heap.size w7 w8 ∧
  ∀ (p:Nat→Bool) (w0 W:World),Kp (World.hide w8 q) (World.hide W p)→Below w0.heap.size w0 W→NfaRet p r w0 (.returned (.tuple #[.agg #[.int .i64 st,.slice ea en ec,.slice aa an ac],.int .i64 er])) W:=by
 cases r with
 | none =>
  obtain⟨rfl,hb⟩:=h.outNo
  exact⟨_,_,_,_,_,_,_,_,rfl,hb,fun p w0 W _ hb2=>NfaRet.no hb2⟩
 | some n =>
  obtain⟨x,rfl,hn,hb⟩:=h.outYes
  exact⟨_,_,_,_,_,_,_,_,rfl,hb,fun p w0 W hk hb2=>NfaRet.yes (hn.keep hk) hb2⟩
end Go.Proofs.YthojpomoflhbcaaGreatDoor
namespace Go.Proofs.YthojpomoflhbcaaGreatDoor
open Go.RowKit
attribute [local go_sem ↓] Go.wp_at_zero Go.wp_at_succ
theorem sum_take_succ (l:List Int) {k:Nat} (h:k < l.length):(l.take (k+1)).sum=(l.take k).sum+l[k]'h:=by
 rw[List.take_succ_eq_append_getElem h,List.sum_append];simp
theorem tsum_any (l:List Int) (a:Option Addr) (c:Nat) (w:World) (h:IntsIn w l a c) (hb:∀ k,k≤l.length→0≤(l.take k).sum∧(l.take k).sum≤1000000000) :
  Calls Tryz.prog 134 #[.slice a l.length c] w fun e w'=>e=.returned (.int .i64 l.sum)∧w'=w:=by
 have hlen:=h.2.1
 have H:=Lib.hid h
 have HB:=Lib.hid hb
 have HA:Hid (l.length=0∨∃ b off,a=some ⟨b,off,none⟩):=SliceIn.addr h
 clear h hb
 go_enter Tryz.func134, Tryz.ntmps134
 go_wp2_with fail
 go_loop [8,3,5] (fun i n _=>∃ k:Nat,i=.int .i64 k∧k≤l.length∧n=.int .i64 (l.take k).sum) (fun i _ _=>l.length - (intOf i).toNat)
 case atStart=>exact⟨0,rfl,Nat.zero_le _,by simp⟩
 case round =>
  obtain⟨k,rfl,hk,rfl⟩:=hrel
  by_cases hlt:k < l.length
  ·obtain⟨b,off,ha⟩:=HA.out.resolve_left (by omega)
   subst ha
   have g0:w.cell? ⟨b,off+k,none⟩=some (.int .i64 (l[k]'hlt)):=by
    have:=H.out.get rfl hlt
    rwa [List.getD_eq_getElem?_getD,List.getElem?_eq_getElem hlt,Option.getD_some] at this
   have HS:Hid ((l.take (k+1)).sum=(l.take k).sum+l[k]'hlt):=sum_take_succ l hlt
   obtain⟨s1,s2⟩:=HB.out (k+1) hlt
   rw[HS.out] at s1 s2
   generalize (l[k]'hlt)=x at g0 HS s1 s2
   have HE:Hid (∀ y,y=(l.take k).sum+x→(Value.int .i64 y:Value)=.int .i64 (l.take (k+1)).sum):=fun y hy=>by rw[HS.out,hy]
   generalize (l.take k).sum=s at s1 s2 HE
   clear HS
   go_wp2_with fail
   go_round
   case rel=>exact⟨k+1,by go_num,by omega,HE.out _ rfl⟩
   case measure=>(simp[intOf];try omega)
  ·obtain rfl:k=l.length:=by omega
   go_wp2_with fail
   go_ret
   exact⟨rfl,rfl⟩
theorem args_le (s:Tq):s.args.length≤s.nodes:=by
 rw[Tq.nodes_eq]
 have:∀ l:List Tq,l.length≤(l.map Tq.nodes).sum:=by
  intro l
  induction l with
  | nil=>simp
  | cons a l ih=>rw[List.length_cons,List.map_cons,List.sum_cons];have:=tq_nodes_pos a;omega
 have:=this s.args
 omega
theorem nodes_cast (s:Tq):((s.args.map fun a=>(a.nodes:Int)).sum:Int)+1=s.nodes:=by
 rw[Tq.nodes_eq]
 have:∀ l:List Tq,(l.map fun a=>(a.nodes:Int)).sum=((l.map Tq.nodes).sum:Nat):=by
  intro l
  induction l with
  | nil=>rfl
  | cons a l ih=>rw[List.map_cons,List.sum_cons,ih,List.map_cons,List.sum_cons];omega
 rw[this];omega
theorem sum_pos:∀ (l:List Int),(∀ x∈l,0≤x)→∀ k,0≤(l.take k).sum∧(l.take k).sum≤l.sum:=by
 intro l
 induction l with
 | nil=>intro _ k;simp
 | cons a l ih =>
  intro h k
  have h0:=h a (List.mem_cons_self ..)
  have h1:=ih (fun x hx=>h x (List.mem_cons_of_mem _ hx))
  cases k with
  | zero =>
   have:=h1 l.length
   rw[List.take_length] at this
   simp only[List.take_zero,List.sum_nil,List.sum_cons]
   omega
  | succ k=>rw[List.take_succ_cons,List.sum_cons,List.sum_cons];have:=h1 k;omega
theorem size1_any:FoldC inE 3 133 (fun s=>(s.nodes:Int)):=by
 intro p B s ae ce a cap v W hO hp hB hn hal
 have hl:(s.args.map fun a=>(a.nodes:Int)).length=s.args.length:=List.length_map _
 obtain⟨va,vc,rfl,hI⟩:=hO.slice (by omega)
 have hs:=nodes_cast s
 have HS:=Lib.hid fun W' (hW:Below W.heap.size W W')=>tsum_any _ va vc W' ((inE_in.1 hI).keep (keeps_of_below hW)) fun k hk=>by
  have:=sum_pos (s.args.map fun a=>(a.nodes:Int)) (fun x hx=>by obtain⟨a,_,rfl⟩:=List.mem_map.1 hx;omega) k
  omega
 have HPo:Hid (∀ n w',n=(s.nodes:Int)→Below W.heap.size W w'→(fun (e:Ending) (w':World)=>(∃ u,e=.returned u∧inE.R (World.hide w' p) (s.nodes:Int) [u])∧Below B W w') (.returned (.int .i64 n)) w'):=fun n w' h hb=>⟨⟨_,rfl,by rw[h];rfl⟩,hb.mono hB⟩
 generalize hPo:(fun (e:Ending) (w':World)=>(∃ u,e=.returned u∧inE.R (World.hide w' p) (s.nodes:Int) [u])∧Below B W w')=Po at HPo
 clear hPo
 have hsn:0≤(s.args.map fun a=>(a.nodes:Int)).sum:=by have:=tq_nodes_pos s;omega
 have hsm:(s.args.map fun a=>(a.nodes:Int)).sum≤1000000000:=by omega
 have HE:Hid (1+(s.args.map fun a=>(a.nodes:Int)).sum=(s.nodes:Int)):=by show _=_;omega
 rw[hl] at HS⊢
 generalize (s.args.map fun a=>(a.nodes:Int)).sum=n at HS hsn hsm HE
 clear hs hO hI
 rw[tqVal_eqF]
 go_enter Tryz.func133, Tryz.ntmps133
 go_wp2_with (go_at_call 134;go_must (refine(HS.out _ bel).mono ?_;rintro e w' ⟨rfl,rfl⟩))
 first | exact HPo.out _ _ HE.out bel | (go_ret;exact HPo.out _ _ HE.out bel)
theorem maxOf_depth:∀ (l:List Int) (m:Int),(∀ x∈l,0≤x)→0≤m→(l++[0]).foldl max m=l.foldl max m:=by
 intro l m h h0
 rw[List.foldl_append]
 have:0≤l.foldl max m:=by
  clear h
  induction l generalizing m with
  | nil=>exact h0
  | cons a l ih=>rw[List.foldl_cons];exact ih _ (by omega)
 show max (l.foldl max m) 0=_
 omega
theorem foldl_cast:∀ (l:List Tq) (m:Nat),(l.map fun a=>(a.depth:Int)).foldl max (m:Int)=((l.map Tq.depth).foldl max m:Nat):=by
 intro l
 induction l with
 | nil=>intro m;rfl
 | cons a l ih =>
  intro m
  rw[List.map_cons,List.foldl_cons,List.map_cons,List.foldl_cons,← ih]
  congr 1
  omega
theorem depth_max (s:Tq):1+Lib.maxOf ((s.args.map fun a=>(a.depth:Int))++[0])=s.depth:=by
 rw[Tq.depth_eq]
 have e:Lib.maxOf ((s.args.map fun a=>(a.depth:Int))++[0])=((s.args.map fun a=>(a.depth:Int))).foldl max 0:=by
  unfold Lib.maxOf
  cases h:s.args with
  | nil=>rfl
  | cons a l =>
   simp only[List.map_cons,List.cons_append,List.headD_cons,List.foldl_cons]
   rw[maxOf_depth _ _ (fun x hx=>by obtain⟨y,_,rfl⟩:=List.mem_map.1 hx;omega) (by omega)]
   congr 1
   omega
 rw[e]
 have:=foldl_cast s.args 0
 rw[show ((0:Nat):Int)=0 from rfl] at this
 rw[this];omega
theorem depth_le (s:Tq):s.depth≤s.nodes:=by
 induction s using Tq.ind with
 | h s ih =>
  rw[Tq.depth_eq,Tq.nodes_eq]
  have:∀ (l:List Tq) (m:Nat),(∀ a∈l,a.depth≤a.nodes)→(l.map Tq.depth).foldl max m≤max m (l.map Tq.nodes).sum:=by
   intro l
   induction l with
   | nil=>intro m _;simp
   | cons a l ih2 =>
    intro m h
    rw[List.map_cons,List.foldl_cons,List.map_cons,List.sum_cons]
    have h1:=ih2 (max m a.depth) fun b hb=>h b (List.mem_cons_of_mem _ hb)
    have h2:=h a (List.mem_cons_self ..)
    omega
  have:=this s.args 0 ih
  omega
theorem depth1_any:FoldC inE 3 131 (fun s=>(s.depth:Int)):=by
 intro p B s ae ce a cap v W hO hp hB hn hal
 have hl:(s.args.map fun a=>(a.depth:Int)).length=s.args.length:=List.length_map _
 obtain⟨va,vc,hv,-⟩:=hO.slice (by omega)
 have HO:=Lib.hid hO
 have hal2:s.args.length≤1000000000:=Nat.le_trans (args_le s) hn
 have hd:=depth_le s
 have HE:Hid (1+Lib.maxOf ((s.args.map fun a=>(a.depth:Int))++[0])=(s.depth:Int)):=depth_max s
 have hd0:0≤Lib.maxOf ((s.args.map fun a=>(a.depth:Int))++[0]):=by
  have h1:=HE.out
  have:1≤s.depth:=by rw[Tq.depth_eq];omega
  omega
 have hd1:Lib.maxOf ((s.args.map fun a=>(a.depth:Int))++[0])≤1000000000:=by have h1:=HE.out;omega
 have HPo:Hid (∀ n w',n=(s.depth:Int)→Below B W w'→(fun (e:Ending) (w':World)=>(∃ u,e=.returned u∧inE.R (World.hide w' p) (s.depth:Int) [u])∧Below B W w') (.returned (.int .i64 n)) w'):=fun n w' h hb=>⟨⟨_,rfl,by rw[h];rfl⟩,hb⟩
 generalize hPo:(fun (e:Ending) (w':World)=>(∃ u,e=.returned u∧inE.R (World.hide w' p) (s.depth:Int) [u])∧Below B W w')=Po at HPo
 have HB:Hid (B≤W.heap.size):=hB
 rw[hl] at hv
 generalize hL:(s.args.map fun a=>(a.depth:Int))=L at HO hl HE hd0 hd1
 have HMx:Hid (∀ (b n c:Nat) (W':World),n=L.length+1→IntsIn W' (L++[0]) (some ⟨b,0,none⟩) c→Calls Tryz.prog 132 #[.slice (some ⟨b,0,none⟩) n c] W' fun e w'=>e=.returned (.int .i64 (Lib.maxOf (L++[0])))∧w'=W'):=fun b n c W' hn' hI=>by
  have hll:(L++[0]).length=n:=by simp[hn']
  refine(Tryz.slices_Max_int b 0 n c (L++[0]) W' (by omega) (by omega) (by have:=hI.2.1;omega) fun j hj=>?_).mono fun e w' h=>⟨by rw[h.1,← hll,List.take_length],h.2⟩
  have:=hI.get rfl hj
  rw[this,List.getD_eq_getElem?_getD,List.getElem?_eq_getElem hj]
 generalize Lib.maxOf (L++[0])=mx at HE hd0 hd1 HMx
 subst hv
 have HLl:Hid (L.length=s.args.length):=hl
 clear hPo hL hO hl hd hB
 rw[tqVal_eqF]
 go_enter Tryz.func131, Tryz.ntmps131
 have HO1:Hid (∀ o,inE.Own 3 p (W.alloc o) B (.slice va s.args.length vc) L):=fun o=>HO.out.below ((Below.refl _ _).alloc (Nat.le_refl _) _)
 go_wp2_with (at_builtin;go_must (refine own_addE (E:=inE) elemIQ _ rfl (.tmp 5) (.tmp 6) rfl p B _ rfl (HO1.out _) 0 [.int .i64 0] rfl _ _ rfl (by simp) s.args.length HLl.out (by omega) (by have:=HB.out;simp only[World.size_alloc];omega) ?_))
 intro g9 cap9 w7 ho hg hat
 have hg0:=own_vlt HO.out
 have HB7:Hid (Below B W w7):=(((Below.refl B W).alloc HB.out _)).grown hg (by have:=HB.out;simp only[World.size_alloc];omega) fun j hj=>(hg0 j hj).1
 have HI7:Hid (IntsIn w7 (L++[0]) (some ⟨g9,0,none⟩) cap9):=by
  obtain⟨a9,c9,hv9,hi9⟩:=ho.slice (by rw[List.length_append,HLl.out];simp;omega)
  simp only[Value.slice.injEq] at hv9
  obtain⟨rfl,_,rfl⟩:=hv9
  exact inE_in.1 hi9
 clear ho hg hat hg0
 go_wp2_with (go_at_call 132;go_must (refine(HMx.out _ _ _ _ (by rw[HLl.out]) HI7.out).mono ?_;rintro e w' ⟨rfl,rfl⟩))
 first | exact HPo.out _ _ HE.out HB7.out | (go_ret;exact HPo.out _ _ HE.out HB7.out)
theorem tqSize_any (s:Tq) (p:Nat→Bool) (ae:Option Addr) (ce:Nat) (a:Option Addr) (cap:Nat) (w:World) (h:TqIn (World.hide w p) s ae ce a cap) (hp:∀ j,p j=true→j < w.heap.size) (hn:s.nodes≤1000000000) :
  Calls Tryz.prog 82 #[tqVal s ae ce a cap] w fun e w'=>e=.returned (.int .i64 (s.nodes:Int))∧Below w.heap.size w w':=by
 have eg:∀ args w,(callFunc 133 args).run Tryz.prog w=.ok (.enter 133 args) w:=enters_of Tryz.func133 (by kernel_rfl) rfl
 have HF:=Lib.hid fun W (hW:Below w.heap.size w W)=>foldI_any 133 eg _ size1_any s p ae ce a cap W (h.keep (hide_below hW fun _ _ h=>h)) (fun j hj=>by have:=hp j hj;have:=hW.size;omega) hn
 clear h hp hn eg
 rw[tqVal_eqF] at HF⊢
 go_enter Tryz.func82, Tryz.ntmps82
 go_wp2_with fail
 refine(HF.out _ bel).mono ?_
 rintro e w' ⟨⟨u,rfl,hu⟩,hb⟩
 have hu2:u=.int .i64 (s.nodes:Int):=(List.cons.inj hu).1
 subst hu2
 have HB:Hid (Below w.heap.size w w'):=((Below.refl w.heap.size w).alloc (Nat.le_refl _) _).trans (hb.mono (by simp))
 clear hb hu
 go_wp2_with fail
 go_ret
 exact⟨rfl,HB.out⟩
theorem tqdepth_any (s:Tq) (p:Nat→Bool) (ae:Option Addr) (ce:Nat) (a:Option Addr) (cap:Nat) (w:World) (h:TqIn (World.hide w p) s ae ce a cap) (hp:∀ j,p j=true→j < w.heap.size) (hn:s.nodes≤1000000000) :
  Calls Tryz.prog 81 #[tqVal s ae ce a cap] w fun e w'=>e=.returned (.int .i64 (s.depth:Int))∧Below w.heap.size w w':=by
 have eg:∀ args w,(callFunc 131 args).run Tryz.prog w=.ok (.enter 131 args) w:=enters_of Tryz.func131 (by kernel_rfl) rfl
 have HF:=Lib.hid fun W (hW:Below w.heap.size w W)=>foldI_any 131 eg _ depth1_any s p ae ce a cap W (h.keep (hide_below hW fun _ _ h=>h)) (fun j hj=>by have:=hp j hj;have:=hW.size;omega) hn
 clear h hp hn eg
 rw[tqVal_eqF] at HF⊢
 go_enter Tryz.func81, Tryz.ntmps81
 go_wp2_with fail
 refine(HF.out _ bel).mono ?_
 rintro e w' ⟨⟨u,rfl,hu⟩,hb⟩
 have hu2:u=.int .i64 (s.depth:Int):=(List.cons.inj hu).1
 subst hu2
 have HB:Hid (Below w.heap.size w w'):=((Below.refl w.heap.size w).alloc (Nat.le_refl _) _).trans (hb.mono (by simp))
 clear hb hu
 go_wp2_with fail
 go_ret
 exact⟨rfl,HB.out⟩
end Go.Proofs.YthojpomoflhbcaaGreatDoor
