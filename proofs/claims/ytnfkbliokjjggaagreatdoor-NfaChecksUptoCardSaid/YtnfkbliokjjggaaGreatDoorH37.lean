/- tseq: Size, depth. -/
import Derived.Test.YtnfkbliokjjggaaGreatDoorH10
import Derived.Test.YtnfkbliokjjggaaGreatDoorHSh
import Derived.Deep.CutRange
import Derived.Test.YtnfkbliokjjggaaGreatDoorH35
set_option maxHeartbeats 8000000
set_option maxRecDepth 100000
set_option linter.unusedSimpArgs false
set_option linter.unusedVariables false
set_option linter.unnecessarySimpa false
namespace Go.Proofs.YtnfkbliokjjggaaGreatDoor
open Go.RowKit
attribute [local go_sem ↓] Go.wp_at_zero Go.wp_at_succ
theorem zah (l:List Int) {k:Nat} (h:k<l.length):(l.take (k+1)).sum=(l.take k).sum+l[k]'h:=by rw[List.take_succ_eq_append_getElem h,List.sum_append];simp
theorem zg5 (l:List Int) (a:Option Addr) (c:Nat) (w:World) (h:IntsIn w l a c) (hb:∀k,k<=l.length->0<=(l.take k).sum/\(l.take k).sum<=1000000000) :
 Calls Tryz.prog 144 #[.slice a l.length c] w λe w'=>e=.returned (.int .i64 l.sum)/\w'=w:=by
 have hlen:=h.2.1;have H:=Lib.hid h;have HB:=Lib.hid hb;have HA:Hid (l.length=0\/∃b off,a=some ⟨b,off,none⟩):=zw.addr h;clear h hb;go_enter Tryz.func144, Tryz.ntmps144;go_wp2_with fail;go_loop [8,3,5] (λi n _=>∃k:Nat,i=.int .i64 k/\k<=l.length/\n=.int .i64 (l.take k).sum) (λi _ _=>l.length-(intOf i).toNat);case atStart=>exact⟨0,rfl,Nat.zero_le _,by simp⟩
 case round =>
  obtain⟨k,rfl,hk,rfl⟩:=hrel;by_cases hlt:k<l.length
  ·obtain⟨b,off,ha⟩:=HA.out.resolve_left (by omega);subst ha;have g0:w.cell? ⟨b,off+k,none⟩=some (.int .i64 (l[k]'hlt)):=by
    have:=H.out.get rfl hlt;rwa [List.getD_eq_getElem?_getD,List.getElem?_eq_getElem hlt,Option.getD_some]at this
   have HS:Hid ((l.take (k+1)).sum=(l.take k).sum+l[k]'hlt):=zah l hlt;obtain⟨s1,s2⟩:=HB.out (k+1) hlt;rw[HS.out]at s1 s2;generalize (l[k]'hlt)=x at g0 HS s1 s2;have HE:Hid (∀y,y=(l.take k).sum+x->(Value.int .i64 y:Value)=.int .i64 (l.take (k+1)).sum):=λy hy=>by rw[HS.out,hy]
   generalize (l.take k).sum=s at s1 s2 HE;clear HS;go_wp2_with fail;go_round;case rel=>exact⟨k+1,by go_num,by omega,HE.out _ rfl⟩
   case measure=>(simp[intOf];try omega)
  ·obtain rfl:k=l.length:=by omega
   go_wp2_with fail;go_ret;exact⟨rfl,rfl⟩
theorem zhS (s:Tq):s.args.length<=s.nodes:=by
 rw[Tq.nodes_eq];have:∀l:List Tq,l.length<=(l.map Tq.nodes).sum:=by
  intro l
  induction l with
  |nil=>simp
  |cons a l ih=>rw[List.length_cons,List.map_cons,List.sum_cons];have:=YV a;omega
 have:=this s.args;omega
theorem zdr (s:Tq):((s.args.map λa=>(a.nodes:Int)).sum:Int)+1=s.nodes:=by
 rw[Tq.nodes_eq];have:∀l:List Tq,(l.map λa=>(a.nodes:Int)).sum=((l.map Tq.nodes).sum:Nat):=by
  intro l
  induction l with
  |nil=>rfl
  |cons a l ih=>rw[List.map_cons,List.sum_cons,ih,List.map_cons,List.sum_cons];omega
 rw[this];omega
theorem ziI:∀(l:List Int),(∀x∈l,0<=x)->∀k,0<=(l.take k).sum/\(l.take k).sum<=l.sum:=by
 intro l
 induction l with
 |nil=>intro _ k;simp
 |cons a l ih =>
  intro h k;have h0:=h a (List.mem_cons_self ..);have h1:=ih (λx hx=>h x (List.mem_cons_of_mem _ hx));cases k with
  |zero =>have:=h1 l.length;rw[List.take_length]at this;simp only[List.take_zero,List.sum_nil,List.sum_cons];omega
  |succ k=>rw[List.take_succ_cons,List.sum_cons,List.sum_cons];have:=h1 k;omega
theorem zfD:zec inE 3 143 (λs=>(s.nodes:Int)):=by
 intro p B s ae ce a cap v W hO hp hB hn hal;have hl:(s.args.map λa=>(a.nodes:Int)).length=s.args.length:=List.length_map _;obtain⟨va,vc,rfl,hI⟩:=hO.slice (by omega);have hs:=zdr s;have HS:=Lib.hid λW' (hW:Below W.heap.size W W')=>zg5 _ va vc W' ((qR.1 hI).keep (za hW)) λk hk=>by have:=ziI (s.args.map λa=>(a.nodes:Int)) (λx hx=>by obtain⟨a,_,rfl⟩:=List.mem_map.1 hx;omega) k;omega
 have HPo:Hid (∀n w',n=(s.nodes:Int)->Below W.heap.size W w'->(λ(e:Ending) (w':World)=>(∃u,e=.returned u/\inE.R (World.hide w' p) (s.nodes:Int) [u])/\Below B W w') (.returned (.int .i64 n)) w'):=λn w' h hb=>⟨⟨_,rfl,by rw[h];rfl⟩,hb.mono hB⟩;generalize hPo:(λ(e:Ending) (w':World)=>(∃u,e=.returned u/\inE.R (World.hide w' p) (s.nodes:Int) [u])/\Below B W w')=Po at HPo;clear hPo;have hsn:0<=(s.args.map λa=>(a.nodes:Int)).sum:=by have:=YV s;omega
 have hsm:(s.args.map λa=>(a.nodes:Int)).sum<=1000000000:=by omega
 have HE:Hid (1+(s.args.map λa=>(a.nodes:Int)).sum=(s.nodes:Int)):=by show _=_;omega
 rw[hl]at HS⊢;generalize (s.args.map λa=>(a.nodes:Int)).sum=n at HS hsn hsm HE;clear hs hO hI;rw[zK];go_enter Tryz.func143, Tryz.ntmps143;go_wp2_with (go_at_call 144;go_must (refine(HS.out _ bel).mono ?_;rintro e w' ⟨rfl,rfl⟩));first|exact HPo.out _ _ HE.out bel|(go_ret;exact HPo.out _ _ HE.out bel)
theorem zbL:∀(l:List Int) (m:Int),(∀x∈l,0<=x)->0<=m->(l++[0]).foldl max m=l.foldl max m:=by
 intro l m h h0;rw[List.foldl_append];have:0<=l.foldl max m:=by
  clear h
  induction l generalizing m with
  |nil=>exact h0
  |cons a l ih=>rw[List.foldl_cons];exact ih _ (by omega)
 show max (l.foldl max m) 0=_;omega
theorem zdg:∀(l:List Tq) (m:Nat),(l.map λa=>(a.depth:Int)).foldl max (m:Int)=((l.map Tq.depth).foldl max m:Nat):=by
 intro l
 induction l with
 |nil=>intro m;rfl
 |cons a l ih =>intro m;rw[List.map_cons,List.foldl_cons,List.map_cons,List.foldl_cons,←ih];congr 1;omega
theorem zeJ (s:Tq):1+Lib.maxOf ((s.args.map λa=>(a.depth:Int))++[0])=s.depth:=by
 rw[Tq.depth_eq];have e:Lib.maxOf ((s.args.map λa=>(a.depth:Int))++[0])=((s.args.map λa=>(a.depth:Int))).foldl max 0:=by
  unfold Lib.maxOf;cases h:s.args with
  |nil=>rfl
  |cons a l =>simp only[List.map_cons,List.cons_append,List.headD_cons,List.foldl_cons];rw[zbL _ _ (λx hx=>by obtain⟨y,_,rfl⟩:=List.mem_map.1 hx;omega) (by omega)];congr 1;omega
 rw[e];have:=zdg s.args 0;rw[show ((0:Nat):Int)=0 from rfl]at this;rw[this];omega
theorem zgj (s:Tq):s.depth<=s.nodes:=by
 induction s using Tq.ind with
 |h s ih =>
  rw[Tq.depth_eq,Tq.nodes_eq];have:∀(l:List Tq) (m:Nat),(∀a∈l,a.depth<=a.nodes)->(l.map Tq.depth).foldl max m<=max m (l.map Tq.nodes).sum:=by
   intro l
   induction l with
   |nil=>intro m _;simp
   |cons a l ih2 =>intro m h;rw[List.map_cons,List.foldl_cons,List.map_cons,List.sum_cons];have h1:=ih2 (max m a.depth) λb hb=>h b (List.mem_cons_of_mem _ hb);have h2:=h a (List.mem_cons_self ..);omega
  have:=this s.args 0 ih;omega
theorem zda:zec inE 3 141 (λs=>(s.depth:Int)):=by
 intro p B s ae ce a cap v W hO hp hB hn hal;have hl:(s.args.map λa=>(a.depth:Int)).length=s.args.length:=List.length_map _;obtain⟨va,vc,hv,-⟩:=hO.slice (by omega);have HO:=Lib.hid hO;have hal2:s.args.length<=1000000000:=Nat.le_trans (zhS s) hn;have hd:=zgj s;have HE:Hid (1+Lib.maxOf ((s.args.map λa=>(a.depth:Int))++[0])=(s.depth:Int)):=zeJ s;have hd0:0<=Lib.maxOf ((s.args.map λa=>(a.depth:Int))++[0]):=by
  have h1:=HE.out;have:1<=s.depth:=by rw[Tq.depth_eq];omega
  omega
 have hd1:Lib.maxOf ((s.args.map λa=>(a.depth:Int))++[0])<=1000000000:=by have h1:=HE.out;omega
 have HPo:Hid (∀n w',n=(s.depth:Int)->Below B W w'->(λ(e:Ending) (w':World)=>(∃u,e=.returned u/\inE.R (World.hide w' p) (s.depth:Int) [u])/\Below B W w') (.returned (.int .i64 n)) w'):=λn w' h hb=>⟨⟨_,rfl,by rw[h];rfl⟩,hb⟩;generalize hPo:(λ(e:Ending) (w':World)=>(∃u,e=.returned u/\inE.R (World.hide w' p) (s.depth:Int) [u])/\Below B W w')=Po at HPo;have HB:Hid (B<=W.heap.size):=hB;rw[hl]at hv;generalize hL:(s.args.map λa=>(a.depth:Int))=L at HO hl HE hd0 hd1;have HMx:Hid (∀(b n c:Nat) (W':World),n=L.length+1->IntsIn W' (L++[0]) (some ⟨b,0,none⟩) c->Calls Tryz.prog 142 #[.slice (some ⟨b,0,none⟩) n c] W' λe w'=>e=.returned (.int .i64 (Lib.maxOf (L++[0])))/\w'=W'):=λb n c W' hn' hI=>by
  have hll:(L++[0]).length=n:=by simp[hn']
  refine(Tryz.slices_Max_int b 0 n c (L++[0]) W' (by omega) (by omega) (by have:=hI.2.1;omega) λj hj=>?_).mono λe w' h=>⟨by rw[h.1,←hll,List.take_length],h.2⟩;have:=hI.get rfl hj;rw[this,List.getD_eq_getElem?_getD,List.getElem?_eq_getElem hj]
 generalize Lib.maxOf (L++[0])=mx at HE hd0 hd1 HMx;subst hv;have HLl:Hid (L.length=s.args.length):=hl;clear hPo hL hO hl hd hB;rw[zK];go_enter Tryz.func141, Tryz.ntmps141;have HO1:Hid (∀o,inE.Own 3 p (W.alloc o) B (.slice va s.args.length vc) L):=λo=>HO.out.below ((Below.refl _ _).alloc (Nat.le_refl _) _);go_wp2_with (at_builtin;go_must (refine yr (E:=inE) zeO _ rfl (.tmp 5) (.tmp 6) rfl p B _ rfl (HO1.out _) 0 [.int .i64 0] rfl _ _ rfl (by simp) s.args.length HLl.out (by omega) (by have:=HB.out;simp only[World.size_alloc];omega) ?_));intro g9 cap9 w7 ho hg hat
 have hg0:=zq HO.out;have HB7:Hid (Below B W w7):=(((Below.refl B W).alloc HB.out _)).grown hg (by have:=HB.out;simp only[World.size_alloc];omega) λj hj=>(hg0 j hj).1;have HI7:Hid (IntsIn w7 (L++[0]) (some ⟨g9,0,none⟩) cap9):=by obtain⟨a9,c9,hv9,hi9⟩:=ho.slice (by rw[List.length_append,HLl.out];simp;omega);simp only[Value.slice.injEq]at hv9;obtain⟨rfl,_,rfl⟩:=hv9;exact qR.1 hi9
 clear ho hg hat hg0;go_wp2_with (go_at_call 142;go_must (refine(HMx.out _ _ _ _ (by rw[HLl.out]) HI7.out).mono ?_;rintro e w' ⟨rfl,rfl⟩));first|exact HPo.out _ _ HE.out HB7.out|(go_ret;exact HPo.out _ _ HE.out HB7.out)
theorem zdZ (s:Tq) (p:Nat->Bool) (ae:Option Addr) (ce:Nat) (a:Option Addr) (cap:Nat) (w:World) (h:X4 (World.hide w p) s ae ce a cap) (hp:∀j,p j=true->j<w.heap.size) (hn:s.nodes<=1000000000) :
 Calls Tryz.prog 81 #[xw s ae ce a cap] w λe w'=>e=.returned (.int .i64 (s.nodes:Int))/\Below w.heap.size w w':=by
 have eg:∀args w,(callFunc 143 args).run Tryz.prog w=.ok (.enter 143 args) w:=enters_of Tryz.func143 (by kernel_rfl) rfl;have HF:=Lib.hid λW (hW:Below w.heap.size w W)=>zaJ 143 eg _ zfD s p ae ce a cap W (h.keep (zg hW λ_ _ h=>h)) (λj hj=>by have:=hp j hj;have:=hW.size;omega) hn;clear h hp hn eg;rw[zK]at HF⊢;go_enter Tryz.func81, Tryz.ntmps81;go_wp2_with fail;refine(HF.out _ bel).mono ?_;rintro e w' ⟨⟨u,rfl,hu⟩,hb⟩;have hu2:u=.int .i64 (s.nodes:Int):=(List.cons.inj hu).1;subst hu2;have HB:Hid (Below w.heap.size w w'):=((Below.refl w.heap.size w).alloc (Nat.le_refl _) _).trans (hb.mono (by simp));clear hb hu;go_wp2_with fail;go_ret;exact⟨rfl,HB.out⟩
theorem zb4 (s:Tq) (p:Nat->Bool) (ae:Option Addr) (ce:Nat) (a:Option Addr) (cap:Nat) (w:World) (h:X4 (World.hide w p) s ae ce a cap) (hp:∀j,p j=true->j<w.heap.size) (hn:s.nodes<=1000000000) :
 Calls Tryz.prog 80 #[xw s ae ce a cap] w λe w'=>e=.returned (.int .i64 (s.depth:Int))/\Below w.heap.size w w':=by
 have eg:∀args w,(callFunc 141 args).run Tryz.prog w=.ok (.enter 141 args) w:=enters_of Tryz.func141 (by kernel_rfl) rfl;have HF:=Lib.hid λW (hW:Below w.heap.size w W)=>zaJ 141 eg _ zda s p ae ce a cap W (h.keep (zg hW λ_ _ h=>h)) (λj hj=>by have:=hp j hj;have:=hW.size;omega) hn;clear h hp hn eg;rw[zK]at HF⊢;go_enter Tryz.func80, Tryz.ntmps80;go_wp2_with fail;refine(HF.out _ bel).mono ?_;rintro e w' ⟨⟨u,rfl,hu⟩,hb⟩;have hu2:u=.int .i64 (s.depth:Int):=(List.cons.inj hu).1;subst hu2;have HB:Hid (Below w.heap.size w w'):=((Below.refl w.heap.size w).alloc (Nat.le_refl _) _).trans (hb.mono (by simp));clear hb hu;go_wp2_with fail;go_ret;exact⟨rfl,HB.out⟩
theorem zi9 (n:Nat) (hn:n<=4294967296) (w:World):Calls Tryz.prog 297 #[.slice none 0 0,.int .i64 n] w (ZY 9 1 w):=by
 by_cases h0:n=0
 ·subst h0;show Calls _ _ _ _ λe w'=>ZY 9 1 w e w';go_enter Tryz.func297, Tryz.ntmps297;go_wp2_with fail;go_ret;exact⟨_,rfl,World.ownsRow_nil _ _ _ _,Below.refl _ _⟩
 ·obtain⟨i,h1,h2,h3,h4⟩:=info_parts (show (Tryz.prog.info? 9).map (λi=>(i.zero,i.size,i.bytes))=some (some (.string .empty),1,16) from by kernel_rfl);have hpos:1<=n:=by omega
  have hge:=grownCap_ge w n 0 9;have hle:=grownCap_le_maxLen w n 0 9 (by unfold maxLen;omega);have hrun:∀ty,(Builtin.append_ #[43, 3] ty #[.slice none 0 0,.int .i64 n]).run Tryz.prog w=_:=λty=>Lib.run_append_nil_zeros (P:=Tryz.prog) w 43 3 ty 9 i _ .i64 .i64 Tryz.underlying43 Tryz.underlying3 h1 h2 n (by omega) (by omega) (by omega) (by rw[h4];omega);have HOwn:Hid ((w.drew.alloc (.cells (Builtin.zeroCells (Value.cells (.string .empty)) n++Builtin.zeroCells (Value.cells (.string .empty)) (grownCap w n 0 9 - n)) 9)).ownsRow w.heap.size 9 1 (.slice (some ⟨w.heap.size,0,none⟩) 0 (grownCap w n 0 9)) 0 []):=by refine World.ownsRow_made w.drew _ _ (Nat.le_refl _) hle ?_;rw[Array.size_append,size_zeroCells,size_zeroCells];show n*1+(grownCap w n 0 9 - n)*1=_;omega
  unfold maxLen at hle;generalize grownCap w n 0 9=gc at hge hle hrun HOwn;have Hrun:=Lib.hid hrun;clear hrun h0 h1 h2 h3 h4;show Calls _ _ _ _ λe w'=>ZY 9 1 w e w';go_enter Tryz.func297, Tryz.ntmps297;go_wp2_with (at_builtin;refine Lib.wpList_append_run _ rfl _ _ _ _ rfl _ _ rfl rfl _ _ (Hrun.out _) ?_);go_ret;exact⟨_,rfl,HOwn.out,bel⟩
theorem zfE {w:World} {l:List (List ByteArray)} {a:Option Addr} {cap:Nat} (h:slE.In w l a cap) {b off:Nat} (ha:a=some ⟨b,off,none⟩) {i:Nat} (hi:i<l.length) :
 ∃xa xc,w.cell? ⟨b,off+i,none⟩=some (.slice xa (l[i]'hi).length xc)/\zM w (l[i]'hi) xa xc:=by
 obtain⟨vs,⟨xa,xc,rfl,h1⟩,hc⟩:=h.get ha hi;have:=hc 0 _ rfl;exact⟨xa,xc,by simpa [show slE.sz=1 from rfl] using this,h1⟩
theorem zgg (p:Nat->Bool) (ls:List (List ByteArray)) (a:Option Addr) (c:Nat) (w:World) (h:slE.In (World.hide w p) ls a c) (hb:ls.flatten.length<=1000000000) :
 Calls Tryz.prog 261 #[.slice a ls.length c] w (yR stE 9 p ls.flatten w):=by
 have hlen:=h.len;have H:=Lib.hid h;have HA:Hid (ls.length=0\/∃b off,a=some ⟨b,off,none⟩):=h.addr;have HT:Hid (∀k,k<=ls.length->(ls.take k).flatten.length<=1000000000):=λk hk=>by
  have e:ls.flatten=(ls.take k).flatten++(ls.drop k).flatten:=by rw[←List.flatten_append,List.take_append_drop]
  have:=congrArg List.length e;rw[List.length_append]at this;omega
 have HTs:Hid (∀k (hk:k<ls.length),(ls.take (k+1)).flatten=(ls.take k).flatten++ls[k]'hk):=λk hk=>by rw[List.take_succ_eq_append_getElem hk,List.flatten_append];simp
 have HPo:Hid (∀v w',stE.Own 9 p w' w.heap.size v ls.flatten->Below w.heap.size w w'->yR stE 9 p ls.flatten w (.returned v) w'):=λv w' h1 h2=>⟨⟨v,rfl,h1⟩,h2⟩;have hz:ls.flatten=(ls.take ls.length).flatten:=by rw[List.take_length]
 rw[hz]at HPo⊢;clear h hb hz;show Calls _ _ _ _ λe w'=>yR stE 9 p (ls.take ls.length).flatten w e w';generalize yR stE 9 p (ls.take ls.length).flatten w=Po at HPo⊢;obtain⟨T,HTe⟩:∃T:Nat->List ByteArray,Hid (∀k,(ls.take k).flatten=T k):=⟨_,λk=>rfl⟩;have HT0:Hid (T 0=[]):=by show _=_;rw[←HTe.out];simp
 have HT1:Hid (∀k,k<=ls.length->(T k).length<=1000000000):=λk hk=>by rw[←HTe.out];exact HT.out k hk
 have HT2:Hid (∀k (hk:k<ls.length),T (k+1)=T k++ls[k]'hk):=λk hk=>by rw[←HTe.out,←HTe.out];exact HTs.out k hk
 rw[HTe.out]at HPo;clear HTe HT HTs;go_enter Tryz.func261, Tryz.ntmps261;go_wp2_with fail;go_loop [11,3,5] (λi n _=>∃k:Nat,i=.int .i64 k/\k<=ls.length/\n=.int .i64 ((T k).length:Nat)) (λi _ _=>ls.length-(intOf i).toNat);case atStart=>exact⟨0,rfl,Nat.zero_le _,by rw[HT0.out];rfl⟩
 case round =>
  obtain⟨k,rfl,hk,rfl⟩:=hrel;by_cases hlt:k<ls.length
  ·obtain⟨b,off,ha⟩:=HA.out.resolve_left (by omega);subst ha;obtain⟨xa,xc,g0,g1⟩:=zfE H.out rfl hlt;have f0:=zc _ _ g0;have HL:Hid ((T (k+1)).length=(T k).length+(ls[k]'hlt).length):=by show _=_;rw[HT2.out k hlt,List.length_append]
   have h1:=HT1.out (k+1) hlt;rw[HL.out]at h1;clear g0 g1;generalize (ls[k]'hlt).length=m at f0 HL h1;have HE:Hid (∀y:Int,y=((T k).length:Int)+(m:Int)->(Value.int .i64 y:Value)=.int .i64 ((T (k+1)).length:Nat)):=λy hy=>by rw[HL.out,hy];rfl
   generalize (T k).length=n at h1 HE;clear HL;go_wp2_with fail;go_round;case rel=>exact⟨k+1,by go_num,by omega,HE.out _ rfl⟩
   case measure=>(simp[intOf];try omega)
  ·obtain rfl:k=ls.length:=by omega
   have h1:=HT1.out ls.length (Nat.le_refl _);have HGr:=Lib.hid (zi9 (T ls.length).length (by omega) w);generalize (T ls.length).length=n at h1 HGr;go_wp2_with fail;refine HGr.out.mono ?_;rintro e w1 ⟨v,rfl,hown,hb⟩;have HR:Hid (ZA stE 9 p w (T 0) v w1):=⟨⟨[],by rw[HT0.out];exact hown,by rw[HT0.out];exact Enc.Vals.nil _⟩,hb⟩;clear hown hb;go_wp2_with fail;go_loopw [27,6,8] (λi v _ wr=>∃k:Nat,i=.int .i64 k/\k<=ls.length/\Hid (ZA stE 9 p w (T k) v wr)) (λi _ _ _=>ls.length-(intOf i).toNat);case atStart=>exact⟨0,rfl,Nat.zero_le _,HR⟩
   case round =>
    obtain⟨k,rfl,hk,HR⟩:=hrel;have HO:=Lib.hid HR.out.1;have HB:=Lib.hid HR.out.2;have hzs:=HB.out.size;have hk1:=HT1.out k hk;by_cases hlt:k<ls.length
    ·obtain⟨b,off,ha⟩:=HA.out.resolve_left (by omega);subst ha;obtain⟨av,cv,hv,_⟩:=HO.out.slice (by omega);subst hv;have HVo:Hid (∀j,(Value.slice av (T k).length cv).ownBlock=some j->w.heap.size<=j):=λj hj=>(zq HO.out j hj).1;obtain⟨xa,xc,g0,g1⟩:=zfE (H.out.keep (qr HB.out HVo.out)) rfl hlt;have f0:=zc _ _ g0;have HS:=Lib.hid (zcK.2 g1);have HT3:=Lib.hid (HT2.out k hlt);have h3:(T k).length+(ls[k]'hlt).length<=1000000000:=by
      have:=HT1.out (k+1) hlt;rwa [HT3.out,List.length_append]at this
     clear g0 g1 HR;generalize (ls[k]'hlt)=x at f0 HS HT3 h3;go_wp2_with (at_builtin;go_must (refine xF (E:=stE) zeP _ rfl (.tmp 31) (.tmp 32) rfl p w.heap.size _ rfl HO.out xa xc HS.out rfl (by omega) hzs ?_));intro v' w' hown' hgr hat
     have HR':Hid (ZA stE 9 p w (T (k+1)) v' w'):=by show ZA _ _ _ _ _ _ _;rw[HT3.out];exact⟨hown',HB.out.grown hgr hzs HVo.out⟩
     clear hown' hgr hat
     go_wp2_with fail;go_roundw;case rel=>exact⟨k+1,by go_num,by omega,HR'⟩
     case measure=>(simp[intOf];try omega)
    ·obtain rfl:k=ls.length:=by omega
     go_wp2_with fail;first|exact HPo.out _ _ HO.out HB.out|(go_ret;exact HPo.out _ _ HO.out HB.out)
theorem zbd (s:Tq):(xq s).length<=s.nodes:=by
 induction s using Tq.ind with
 |h s ih =>
  rw[zcH,Tq.nodes_eq,List.length_append];have h1:(if s.op=6 then [s.name] else ([]:List ByteArray)).length<=1:=by split<;>simp
  have:∀l:List Tq,(∀a∈l,(xq a).length<=a.nodes)->(l.map xq).flatten.length<=(l.map Tq.nodes).sum:=by
   intro l
   induction l with
   |nil=>intro _;simp
   |cons a l ih2 =>intro h;rw[List.map_cons,List.flatten_cons,List.length_append,List.map_cons,List.sum_cons];have h2:=h a (List.mem_cons_self ..);have h3:=ih2 λb hb=>h b (List.mem_cons_of_mem _ hb);omega
  have:=this s.args ih;omega
theorem zdq:zec slE 43 260 xq:=by
 intro p B s ae ce a cap v W hO hp hB hn hal;have hl:(s.args.map xq).length=s.args.length:=List.length_map _;have hpB:∀k,B<=k->p k=false:=λk hk=>by
  cases h:p k with
  |false=>rfl
  |true=>have:=hp k h;omega
 obtain⟨va,vc,rfl,hI⟩:=hO.sliceP (by omega) hpB;have hsl:=zbd s;have hS:=zcH s;have hfl:(s.args.map xq).flatten.length<=1000000000-1\/s.op=6:=by
  by_cases h:s.op=6
  ·exact Or.inr h
  ·left;rw[hS,if_neg h,List.append_nil]at hsl;have:(s.args.map xq).flatten.length<=(s.args.map Tq.nodes).sum:=by
    clear hsl hS
    induction s.args with
    |nil=>simp
    |cons a l ih=>rw[List.map_cons,List.flatten_cons,List.length_append,List.map_cons,List.sum_cons];have:=zbd a;omega
   have h2:=Tq.nodes_eq s;omega
 have hfl2:(s.args.map xq).flatten.length<=1000000000:=by rw[hS,List.length_append]at hsl;omega
 have HC:=Lib.hid λW' (hW:Below W.heap.size W W')=>zgg p _ va vc W' (hI.keep (zg hW λ_ _ h=>h)) hfl2;have HPo:Hid (∀a' l' c' w',l'=xq s->zM (World.hide w' p) l' a' c'->Below W.heap.size W w'->(λ(e:Ending) (w':World)=>(∃u,e=.returned u/\slE.R (World.hide w' p) (xq s) [u])/\Below B W w') (.returned (.slice a' l'.length c')) w'):=λa' l' c' w' h1 h2 hb=>by subst h1;exact⟨⟨_,rfl,a',c',rfl,h2⟩,hb.mono hB⟩
 generalize hPo:(λ(e:Ending) (w':World)=>(∃u,e=.returned u/\slE.R (World.hide w' p) (xq s) [u])/\Below B W w')=Po at HPo;have Hp:Hid (∀k,W.heap.size<=k->p k=false):=λk hk=>hpB k (by omega);rw[hl]at HC⊢;have HS:=Lib.hid hS;have hsl9:(xq s).length<=1000000000:=by omega
 rw[hS]at hsl9;generalize (s.args.map xq).flatten=L at HC HS hfl2 hsl9;clear hPo hO hI hl hS hsl hfl;rw[zK];go_enter Tryz.func260, Tryz.ntmps260;go_wp2_with fail;refine(HC.out _ bel).mono ?_;rintro e w5 ⟨⟨v5,rfl,ho5⟩,hb5⟩;have HB5:Hid (Below W.heap.size W w5):=((Below.refl W.heap.size W).alloc (Nat.le_refl _) _).trans (hb5.mono (by simp));have hx5:w5.heap[W.heap.size]? = some (xr s ae ce a cap):=(hb5.block _ (by simp)).trans (zh rfl);obtain⟨a5,c5,rfl,hi5⟩:=ho5.sliceP (by omega) λk hk=>Hp.out k (by simp at hk;omega);have HI5:=Lib.hid hi5;have HO5:Hid (stE.Own 9 p w5 (W.heap.size+1) (.slice a5 L.length c5) L):=by have:=ho5;simp only[World.size_alloc]at this;exact this
 obtain⟨b0,-,-,-,-,-,-,b7,-⟩:=yI hx5;have hz5:=lt_of_block hx5;clear ho5 hb5 hx5 hi5;by_cases h6:s.op=6
 ·rw[h6]at b0;rw[if_pos h6]at HS hsl9;rw[List.length_append,List.length_singleton]at hsl9;clear h6;go_wp2_with (at_builtin;go_must (refine yr (E:=stE) zeP _ rfl (.tmp 11) (.tmp 14) rfl p (W.heap.size+1) _ rfl HO5.out s.name [.string s.name] rfl _ _ rfl rfl L.length rfl (by omega) (by omega) ?_));intro g9 cap9 w7 ho hg hat
  obtain⟨a9,c9,hv9,hi9⟩:=ho.sliceP (by rw[List.length_append,List.length_singleton];omega) λk hk=>Hp.out k (by omega);rw[List.length_append,List.length_singleton]at hv9;have HV9:=Lib.hid hv9;have HI9:=Lib.hid (zcK.1 hi9);have HB7:Hid (Below W.heap.size W w7):=HB5.out.grown hg (by omega) λj hj=>by have:=(zq HO5.out j hj).1;omega
  have HF:Hid (Po (.returned (.slice (some ⟨g9,0,none⟩) (L.length+1) cap9)) w7):=by show Po _ _;have h:=HPo.out a9 (L++[s.name]) c9 w7 HS.out.symm HI9.out HB7.out;rw[List.length_append,List.length_singleton,←HV9.out]at h;exact h
  clear ho hg hat hi9 hv9;go_wp2_with fail;first|exact HF.out|(go_ret;exact HF.out)
 ·rw[if_neg h6,List.append_nil]at HS;have HF:Hid (Po (.returned (.slice a5 L.length c5)) w5):=HPo.out a5 L c5 w5 HS.out.symm (zcK.1 HI5.out) HB5.out;go_wp2_with fail;first|exact HF.out|(go_ret;exact HF.out)
theorem zb5 (s:Tq) (p:Nat->Bool) (ae:Option Addr) (ce:Nat) (a:Option Addr) (cap:Nat) (w:World) (h:X4 (World.hide w p) s ae ce a cap) (hp:∀j,p j=true->j<w.heap.size) (hn:s.nodes<=1000000000) :
 Calls Tryz.prog 213 #[xw s ae ce a cap] w λe w'=>∃a' c',e=.returned (.slice a' (xq s).length c')/\zM w' (xq s) a' c'/\Below w.heap.size w w':=by
 have eg:∀args w,(callFunc 260 args).run Tryz.prog w=.ok (.enter 260 args) w:=enters_of Tryz.func260 (by kernel_rfl) rfl;have HF:=Lib.hid λW (hW:Below w.heap.size w W)=>zeT 260 eg _ zdq s p ae ce a cap W (h.keep (zg hW λ_ _ h=>h)) (λj hj=>by have:=hp j hj;have:=hW.size;omega) hn;clear h hp hn eg;rw[zK]at HF⊢;generalize hPo:(λ(e:Ending) (w':World)=>∃a' c',e=.returned (.slice a' (xq s).length c')/\zM w' (xq s) a' c'/\Below w.heap.size w w')=Po;have HPo:Hid (∀a' c' w',zM w' (xq s) a' c'->Below w.heap.size w w'->Po (.returned (.slice a' (xq s).length c')) w'):=λa' c' w' h1 h2=>by rw[←hPo];exact⟨a',c',rfl,h1,h2⟩
 clear hPo;go_enter Tryz.func213, Tryz.ntmps213;go_wp2_with fail;refine(HF.out _ bel).mono ?_;rintro e w' ⟨⟨u,rfl,a',c',hu,hs⟩,hb⟩;have hu2:u=.slice a' (xq s).length c':=(List.cons.inj hu).1;subst hu2;have HQ:Hid (Po (.returned (.slice a' (xq s).length c')) w'):=HPo.out a' c' w' (hs.keep zc) (((Below.refl w.heap.size w).alloc (Nat.le_refl _) _).trans (hb.mono (by simp)));clear hb hu hs;go_wp2_with fail;first|exact HQ.out|(go_ret;exact HQ.out)
theorem zcc (op:Int) (w:World):Calls Tryz.prog 211 #[.int .i64 op] w λe w'=>e=.returned (.bool (yh op))/\w'=w:=by go_enter Tryz.func211, Tryz.ntmps211;go_wp2_with fail;all_goals (go_ret;exact⟨congrArg Ending.returned (congrArg Value.bool (by simp_all [yh])),rfl⟩)
theorem zcR (x:Ex) (a:Option Addr) (c:Nat) (w:World):Calls Tryz.prog 212 #[zL x a c] w λe w'=>e=.returned (.bool (zal x))/\Below w.heap.size w w':=by
 obtain⟨op,n,s,args⟩:=x;have e:zal (.mk op n s args)=decide (op=0/\n=0/\s.size=0/\args.length=0):=rfl;rw[e];unfold zL;simp only[Ex.op_mk,Ex.n_mk,Ex.name_mk,Ex.args_mk];generalize args.length=m;clear e;by_cases h1:op=0
 ·subst h1;by_cases h2:n=0
  ·subst h2;by_cases h3:s.size=0
   ·have hs:s=⟨#[]⟩:=by
     have:s.data.size=0:=h3;exact ByteArray.ext (Array.eq_empty_of_size_eq_zero this)
    subst hs;by_cases h4:m=0
    ·subst h4;go_enter Tryz.func212, Tryz.ntmps212;go_wp2_with fail;go_ret;exact⟨rfl,bel⟩
    ·go_enter Tryz.func212, Tryz.ntmps212;go_wp2_with fail;go_ret;exact⟨by simp[h4],bel⟩
   ·have hs:¬s.toList=[]:=λh=>h3 (by
     have:s.toList.length=0:=by rw[h];rfl
     rwa [ByteArray.toList_eq,Array.length_toList]at this)
    have hsb:(s.toList==[])=false:=by simpa using hs
    go_enter Tryz.func212, Tryz.ntmps212;go_wp2_with fail;go_ret;exact⟨by simp[h3],bel⟩
  ·go_enter Tryz.func212, Tryz.ntmps212;go_wp2_with fail;go_ret;exact⟨by simp[h2],bel⟩
 ·go_enter Tryz.func212, Tryz.ntmps212;go_wp2_with fail;go_ret;exact⟨by simp[h1],bel⟩
theorem Y5 {b c:Bool} (h:b=true<->c=true):(Value.bool b:Value)=.bool c:=by congr 1;exact Bool.eq_iff_iff.2 h
def XV (op lo hi:Int) (n:Nat):Bool :=
 if op=1 then decide (n=0/\lo=0/\hi=0)
 else if op=2 then decide (n=2/\0<=lo/\lo<=hi/\hi<=16)
 else if op=3 then decide (n=1/\1<=lo/\lo<=hi/\hi<=16)
 else if op=4\/op=5 then decide (2<=n/\n<=8/\lo=0/\hi=0)
 else if op=6\/op=7 then decide (n=1/\lo=0/\hi=0)
 else false
theorem zbf (s:Tq) (ae:Option Addr) (ce:Nat) (a:Option Addr) (cap:Nat) (w:World):Calls Tryz.prog 210 #[xw s ae ce a cap] w λe w'=>e=.returned (.bool (qC s))/\Below w.heap.size w w':=by
 have e:qC s=XV s.op s.lo s.hi s.args.length:=rfl;rw[e,zK];clear e;generalize s.op=op;generalize s.lo=lo;generalize s.hi=hi;generalize s.args.length=n;generalize s.expr.op=xo;generalize s.expr.n=xn;generalize s.expr.name=xs;generalize s.expr.args.length=xl;generalize s.name=nm;go_enter Tryz.func210, Tryz.ntmps210;go_upto_region 1 with fail;go_cut [3,4,5] from 7 to 14 (λs3 s4 s5 wx=>s3=.int .i64 1/\s4=.int .i64 1/\s5=.bool (decide (lo=0/\hi=0))/\Hid (Below (w.heap.size+1) (w.alloc (.cells #[.int .i64 op,.int .i64 lo,.int .i64 hi,.int .i64 xo,.int .i64 xn,.string xs,.slice ae xl ce,.string nm,.slice a n cap] 27)) wx));case first =>
  by_cases hl:lo=0
  ·subst hl;go_region;go_wp2_with fail;go_meet;case rel=>exact⟨rfl,rfl,congrArg Value.bool (Bool.eq_iff_iff.2 (by simp)),bel⟩
  ·have hlb:(lo==0)=false:=by simp[hl]
   go_region;go_wp2_with fail;go_meet;case rel=>exact⟨rfl,rfl,by simp[hl],bel⟩
 case rest =>
  obtain⟨e3,e4,e5,HB⟩:=hcut;have HB':Hid (Below w.heap.size w wc):=((Below.refl w.heap.size w).alloc (Nat.le_refl _) _).trans (HB.out.mono (by omega));have hbx:=(HB.out.block w.heap.size (by simp)).trans (zh rfl);obtain⟨b0,b1,b2,-,-,-,-,-,b8⟩:=yI hbx;subst e3 e4 e5;clear HB hbx;generalize hP:decide (lo=0/\hi=0)=P;have HP:=Lib.hid hP;clear hP;have hops:op=1\/op=2\/op=3\/op=4\/op=5\/op=6\/op=7\/(¬op=1/\¬op=2/\¬op=3/\¬op=4/\¬op=5/\¬op=6/\¬op=7):=by omega
  rcases hops with h|h|h|h|h|h|h|⟨n1,n2,n3,n4,n5,n6,n7⟩;case inr.inr.inr.inr.inr.inr.inr =>
   have HF:Hid (XV op lo hi n=false):=by show _=_;simp[XV,n1,n2,n3,n4,n5,n6,n7]
   go_wp2_with fail;all_goals (go_ret;exact⟨by rw[HF.out];rfl,HB'.out⟩)
  all_goals
   subst h;go_wp2_with fail
  all_goals
   go_ret;refine⟨?_,HB'.out⟩
   first
    |(show Ending.returned (.bool P)=_;refine congrArg Ending.returned (Y5 ?_);rw[←HP.out];simp[XV];done)
    |(show Ending.returned (.bool P)=_;refine congrArg Ending.returned (Y5 ?_);rw[←HP.out];simp[XV];omega)
    |(refine congrArg Ending.returned (Y5 ?_);simp[XV];done)
    |(refine congrArg Ending.returned (Y5 ?_);simp[XV];omega)
def zhK (g:FuncId) (lb:Array Value) (d:ByteArray->Bool) (K:World->Prop):Prop :=
 ∀(W:World) (x:ByteArray),K W->Calls Tryz.prog g (#[.string x]++lb) W λe W'=>e=.returned (.bool (d x))/\Below W.heap.size W W'
theorem zdn (g:FuncId) (eg:∀args w,(callFunc g args).run Tryz.prog w=.ok (.enter g args) w) (lb:Array Value) (d:ByteArray->Bool) (K:World->Prop) (hP:zhK g lb d K) (hKb:∀W W',K W->Below W.heap.size W W'->K W') (l:List ByteArray) (a:Option Addr) (cap:Nat) (w:World) (hE:zM w l a cap) (hK:K w) :
 Calls Tryz.prog 248 #[.slice a l.length cap,.func (.func g) #[] lb] w λe w'=>(∃i:Int,e=.returned (.int .i64 i)/\(0<=i<->l.any d=true))/\Below w.heap.size w w':=by
 have HP:=Lib.hid hP;have HE:=Lib.hid hE;have HKb:=Lib.hid hKb;have HK:=Lib.hid hK;have hlen:=hE.2.1;have HA:Hid (l.length=0\/∃b off,a=some ⟨b,off,none⟩):=zw.addr hE;have HY:Hid (∀k (hk:k<l.length),d (l[k]'hk)=true->∀w',Below w.heap.size w w'->(λ(e:Ending) (w':World)=>(∃i:Int,e=.returned (.int .i64 i)/\(0<=i<->l.any d=true))/\Below w.heap.size w w') (.returned (.int .i64 k)) w'):=λk hk h w' hb=>⟨⟨k,rfl,⟨λ_=>List.any_eq_true.2 ⟨_,List.getElem_mem hk,h⟩,λ_=>by omega⟩⟩,hb⟩;have HN:Hid ((∀j (hj:j<l.length),d (l[j]'hj)=false)->∀w',Below w.heap.size w w'->(λ(e:Ending) (w':World)=>(∃i:Int,e=.returned (.int .i64 i)/\(0<=i<->l.any d=true))/\Below w.heap.size w w') (.returned (.int .i64 (-1))) w'):=λh w' hb=>⟨⟨-1,rfl,⟨λh0=>by omega,λh0=>by obtain⟨x,hx,hd⟩:=List.any_eq_true.1 h0;obtain⟨j,hj,rfl⟩:=List.getElem_of_mem hx;rw[h j hj]at hd;cases hd⟩⟩,hb⟩;generalize (λ(e:Ending) (w':World)=>(∃i:Int,e=.returned (.int .i64 i)/\(0<=i<->l.any d=true))/\Below w.heap.size w w')=Po at HY HN⊢;clear hP hE hKb hK;go_enter Tryz.func248, Tryz.ntmps248;go_wp2_with fail;go_loopw [8,5] (λi _ wr=>∃k:Nat,i=.int .i64 k/\k<=l.length/\Hid (∀j (hj:j<l.length),j<k->d (l[j]'hj)=false)/\Hid (Below w.heap.size w wr)) (λi _ _=>l.length-(intOf i).toNat);case atStart=>exact⟨0,rfl,Nat.zero_le _,λ_ _ h=>absurd h (by omega),Below.refl _ _⟩
 case round =>
  obtain⟨k,rfl,hk,HAl,HBr⟩:=hrel;have hzr:=HBr.out.size;by_cases hlt:k<l.length
  ·obtain⟨b,off,ha⟩:=HA.out.resolve_left (by omega);subst ha;have c0:=za HBr.out _ _ (HE.out.get rfl hlt);have HNx:Hid (d (l[k]'hlt)=false->∀j (hj:j<l.length),j<k+1->d (l[j]'hj)=false):=λhv j hj hjk=>by
    by_cases e:j=k
    ·subst e;exact hv
    ·exact HAl.out j hj (by omega)
   have HYx:Hid (d (l[k]'hlt)=true->∀w',Below w.heap.size w w'->Po (.returned (.int .i64 k)) w'):=λh=>HY.out k hlt h;have hC:=HP.out wr (l[k]'hlt) (HKb.out _ _ HK.out HBr.out);generalize (l[k]'hlt)=y at c0 HNx HYx hC;cases hd:d y with
   |false =>
    have HAl2:=Lib.hid (HNx.out hd);rw[hd]at hC;have HC:=Lib.hid hC;clear HNx HYx hC hd;go_wp2_with (go_at_fn g;go_must (refine HC.out.mono ?_;rintro e w5 ⟨rfl,hb5⟩));have HB5:=Lib.hid hb5;go_roundw;case rel=>exact⟨k+1,by go_num,by omega,HAl2.out,HBr.out.trans (HB5.out.mono hzr)⟩
    case measure=>(simp[intOf];try omega)
   |true =>have HR:=Lib.hid (HYx.out hd);rw[hd]at hC;have HC:=Lib.hid hC;clear HNx HYx hC hd;go_wp2_with (go_at_fn g;go_must (refine HC.out.mono ?_;rintro e w5 ⟨rfl,hb5⟩));have HB5:=Lib.hid hb5;first|exact HR.out _ (HBr.out.trans (HB5.out.mono hzr))|(go_ret;exact HR.out _ (HBr.out.trans (HB5.out.mono hzr)))
  ·obtain rfl:k=l.length:=by omega
   have HR:=Lib.hid (HN.out λj hj=>HAl.out j hj hj);go_wp2_with fail;first|exact HR.out _ HBr.out|(go_ret;exact HR.out _ HBr.out)
theorem X7 (g:FuncId) (eg:∀args w,(callFunc g args).run Tryz.prog w=.ok (.enter g args) w) (lb:Array Value) (d:ByteArray->Bool) (K:World->Prop) (hP:zhK g lb d K) (hKb:∀W W',K W->Below W.heap.size W W'->K W') (l:List ByteArray) (a:Option Addr) (cap:Nat) (w:World) (hE:zM w l a cap) (hK:K w) :
 Calls Tryz.prog 191 #[.slice a l.length cap,.func (.func g) #[] lb] w λe w'=>e=.returned (.bool (l.any d))/\Below w.heap.size w w':=by
 have HI:=Lib.hid λW (hW:Below w.heap.size w W)=>zdn g eg lb d K hP hKb l a cap W (hE.keep (za hW)) (hKb _ _ hK hW);clear hP hKb hE hK eg;generalize l.any d=R at HI⊢;generalize l.length=n at HI⊢;go_enter Tryz.func191, Tryz.ntmps191;go_wp2_with fail;refine(HI.out _ bel).mono ?_;rintro e w5 ⟨⟨i,rfl,hi⟩,hb5⟩;have HB5:=Lib.hid hb5;clear hb5;cases R with
 |true =>have h0:0<=i:=hi.2 rfl;clear hi;go_wp2_with fail;go_ret;exact⟨by simp[h0],HB5.out⟩
 |false =>
  have h0:¬0<=i:=λh=>by have:=hi.1 h;cases this
  have h1:i<0:=by omega
  clear hi;go_wp2_with fail;go_ret;exact⟨by simp;omega,HB5.out⟩
theorem zeC (l:List ByteArray) (a:Option Addr) (c:Nat) (x:ByteArray) (w:World) (h:zM w l a c):Calls Tryz.prog 194 #[.slice a l.length c,.string x] w λe w'=>e=.returned (.bool (Lib.containsS l x))/\w'=w:=by
 have hlen:=h.2.1;rcases Nat.eq_zero_or_pos l.length with h0|h0
 ·obtain rfl:l=[]:=List.eq_nil_of_length_eq_zero h0;exact(Tryz.slices_Contains_string_empty a c x w).mono λe w' h=>⟨h.1,h.2⟩
 ·obtain⟨b,off,rfl⟩:=(zw.addr h).resolve_left (by omega);have:=Tryz.slices_Contains_string b off l.length c l x w (Nat.le_refl _) (by omega) λj hj=>by
   rw[h.get rfl hj];simp[hj]
  rw[List.take_of_length_le (Nat.le_refl _)]at this;exact this
theorem zfc (b:Nat) (l:List ByteArray) (al:Option Addr) (cl:Nat):zhK 214 #[.pointer (some ⟨b,0,none⟩)] (λx=>Lib.containsS l x) (λW=>W.cell? ⟨b,0,none⟩=some (.slice al l.length cl)/\zM W l al cl):=by rintro W x ⟨hc,hl⟩;show Calls Tryz.prog 214 #[.string x,.pointer (some ⟨b,0,none⟩)] W λe W'=>e=.returned (.bool (Lib.containsS l x))/\Below W.heap.size W W';have HC:=Lib.hid λW' (hW:Below W.heap.size W W')=>zeC l al cl x W' (hl.keep (za hW));generalize Lib.containsS l x=R at HC⊢;generalize l.length=n at hc HC;clear hl;go_enter Tryz.func214, Tryz.ntmps214;go_wp2_with (go_at_call 194;go_must (refine(HC.out _ bel).mono ?_;rintro e w' ⟨rfl,rfl⟩));go_ret;exact⟨rfl,bel⟩
end Go.Proofs.YtnfkbliokjjggaaGreatDoor
