/- ref22: Support, as a row of its own. -/
import Derived.Test.YtcplmcjbkpmhdaaGreatDoorSF
import Derived.Test.YtcplmcjbkpmhdaaGreatDoorGA
import Derived.Test.YtcplmcjbkpmhdaaGreatDoorGB
import Derived.Test.YtcplmcjbkpmhdaaGreatDoorSP
set_option linter.unusedSimpArgs false
set_option linter.unusedVariables false
set_option linter.unnecessarySimpa false
namespace Go.Proofs.YtcplmcjbkpmhdaaGreatDoor
open Go.RowKit
attribute [local go_sem ↓] Go.wp_at_zero Go.wp_at_succ
def SupOwn (p:ProbD) (w:World) (e:Ending) (w':World):Prop:=(∃ v,e=.returned v∧ExsOwn w.heap.size w' v (suppsE p))∧Below w.heap.size w w'
theorem supOwn_out {p:ProbD} {w w':World} {B:Nat} {v:Value} (hw:Below w.heap.size w w') (_:ProbOk p) (_:p.dists.length≤1073741824) (hB:w.heap.size≤B) (h:ExsOwn B w' v (suppTo p p.dists.length)):SupOwn p w (.returned v) w':=by
 obtain⟨xs,h1,h2⟩:=h
 rw[suppTo_all] at h1 h2
 exact⟨⟨v,rfl,xs,own_base h1 hB,h2.mono fun k hk=>⟨by have:=hk.1;omega,hk.2⟩⟩,hw⟩
set_option maxRecDepth 100000 in
set_option maxHeartbeats 8000000 in
theorem r22SupportO_any (p:ProbD) (x:ProbA) (w:World) (hE:ProbIn w p x) (hs:ProbSmall p) (hp:ProbOk p) :
  Calls Tryz.prog 168 #[probVal p x] w fun e w'=>SupOwn p w e w':=by
 have HV0:=Lib.hid (fun W (hW:Below w.heap.size w W)=>r14Valid_any p x W (hE.keep (keeps_of_below hW)) hs)
 have HS0:=Lib.hid (fun (hV:VarsOk p.vars) d aw cw W (hW:Below w.heap.size w W) (hw:WeightsIn W d.weights aw cw) (hR:RandV p.vars d.var)=>r22support_any p x d aw cw W (hE.keep (keeps_of_below hW)) hV hw hR)
 have HDs:=Lib.hid hE.dists
 have HAD:=Lib.hid hE.dists.addr
 have hdl:=hE.dists.2.1
 have HRt:=Lib.hid (fun w' B v hw hp h1 h=>supOwn_out (p:=p) (w:=w) (w':=w') (B:=B) (v:=v) hw hp hdl h1 h)
 have HSu:=Lib.hid (fun k (h:k < p.dists.length)=>suppTo_succ h)
 have HSl:=Lib.hid (fun k (h:k≤p.dists.length)=>suppTo_len p h)
 clear hE hs
 ·have HV1:=Lib.hid (fun W hW=>errT (HV0.out W hW) hp)
  have HRt:=Lib.hid (fun w' B v hw h1 h=>HRt.out w' B v hw hp h1 h)
  have HS1:=Lib.hid (fun d aw cw W hW hw hR=>HS0.out hp.vars d aw cw W hW hw hR)
  have HDV:=Lib.hid (fun i (h:i < p.dists.length)=>(hp.dists i h).var)
  have HS00:Hid (suppTo p 0=[]):=rfl
  generalize suppTo p=ST at HSu HSl HRt HS00
  simp only[probVal_eq] at HV1 HS1⊢
  obtain⟨vs,hard,soft,ds,gs⟩:=p
  obtain⟨av,cv,ah,ch,ao,co,ad,cd,ag,cg⟩:=x
  simp only at HV1 HS1 HRt HDs HAD HSu HSl HDV hdl⊢
  have HV:=Lib.hid (HV1.out (w.alloc (.cells #[.slice av vs.length cv,.slice ah hard.length ch,.slice ao soft.length co,.slice ad ds.length cd,.slice ag gs.length cg] 27)) ((Below.refl _ _).alloc (Nat.le_refl _) _))
  clear HV0 HV1 hp HS0
  go_enter Tryz.func168, Tryz.ntmps168
  go_wp2_with fail
  refine HV.out.mono ?_
  rintro e w1 ⟨rfl,hb1⟩
  simp only[World.size_alloc] at hb1
  have HB1:=Lib.hid hb1
  have hz1:=hb1.size
  simp only[World.size_alloc] at hz1
  ((try clear b0 b1 b2 b3 b4);have b0:=box_cell HB1.out 0;have b1:=box_cell HB1.out 1;have b2:=box_cell HB1.out 2;have b3:=box_cell HB1.out 3;have b4:=box_cell HB1.out 4;(try simp at b0 b1 b2 b3 b4))
  clear hb1
  have HO2:Hid (ExsOwn (w.heap.size+1) w1 (.slice none 0 0) (ST 0)):=by
   show ExsOwn _ _ _ _
   rw[HS00.out]
   exact ExsOwn.nil _ _
  go_wp2_with fail
  go_loopw [3,4] (fun v i wr=>∃ k:Nat,i=.int .i64 k∧k≤ds.length∧ExsOwn (w.heap.size+1) wr v (ST k)∧Below (w.heap.size+1) (w.alloc (.cells #[.slice av vs.length cv,.slice ah hard.length ch,.slice ao soft.length co,.slice ad ds.length cd,.slice ag gs.length cg] 27)) wr) (fun _ i _=>ds.length - (intOf i).toNat)
  case atStart=>exact⟨0,rfl,Nat.zero_le _,HO2.out,HB1.out⟩
  case round =>
   obtain⟨k,rfl,hk,hown,hB⟩:=hrel
   have HB:=Lib.hid hB
   have HBw:=Lib.hid (boxW _ hB)
   have HO:=Lib.hid hown
   have hzr:=hB.size
   simp only[World.size_alloc] at hzr
   have hzl:w.heap.size < wr.heap.size:=by omega
   clear hB hown
   ((try clear b0 b1 b2 b3 b4);have b0:=box_cell HB.out 0;have b1:=box_cell HB.out 1;have b2:=box_cell HB.out 2;have b3:=box_cell HB.out 3;have b4:=box_cell HB.out 4;(try simp at b0 b1 b2 b3 b4))
   by_cases hlt:k < ds.length
   ·obtain⟨b,off,ha⟩:=HAD.out.resolve_left (by omega)
    subst ha
    obtain⟨aw,cw,g0,g1,hW⟩:=HDs.out.get rfl hlt
    have kk:=keeps_of_below HBw.out
    have c0:=kk _ _ g0
    have c1:=kk _ _ g1
    have HN:=Lib.hid (HSu.out k hlt)
    have HWt:=Lib.hid (fun W (hWW:Below wr.heap.size wr W)=>hW.keep (keeps_of_below (HBw.out.trans (hWW.mono HBw.out.size))))
    have HC0:=fun W (hWW:Below w.heap.size w W) hwt=>HS1.out (ds[k]'hlt) aw cw W hWW hwt (HDV.out k hlt)
    have HLn:=Lib.hid (HSl.out k (by omega))
    generalize (ds[k]'hlt)=d at c0 c1 g0 g1 HN HC0 HWt
    have hBw:=HBw.out
    have HC:=Lib.hid HC0
    generalize suppE vs d=R at HN HC HC0
    obtain⟨var,ws⟩:=d
    simp only at c0 c1 HC
    clear kk hW HC0
    simp only at g0 g1
    obtain⟨ua,uc,rfl,_⟩:∃ ua uc,u3=.slice ua (ST k).length uc∧True:=by
     obtain⟨xs,h1,_⟩:=HO.out
     obtain⟨a,c,h2,_⟩:=slice_of_own h1 (by have:=HLn.out;omega)
     exact⟨a,c,h2,trivial⟩
    have HAp:=Lib.hid (fun W w2 ax cx (hW:Below wr.heap.size wr W) (h1:ExOn (W.heap.size≤·) w2 R ax cx) h2=>HO.out.call hW (by omega) h1 h2)
    have HALL:=Lib.hid (fun W (hW:Below (w.heap.size+1) (w.alloc (.cells #[.slice av vs.length cv,.slice ah hard.length ch,.slice ao soft.length co,.slice (some ⟨b,off,none⟩) ds.length cd,.slice ag gs.length cg] 27)) W)=>(show W.cell? ⟨w.heap.size,0,none⟩=some (.slice av vs.length cv)∧W.cell? ⟨w.heap.size,1,none⟩=some (.slice ah hard.length ch)∧W.cell? ⟨w.heap.size,2,none⟩=some (.slice ao soft.length co)∧W.cell? ⟨w.heap.size,3,none⟩=some (.slice (some ⟨b,off,none⟩) ds.length cd)∧W.cell? ⟨w.heap.size,4,none⟩=some (.slice ag gs.length cg)∧W.cell? ⟨b,off+k * 2,none⟩=some (.int .i64 var)∧W.cell? ⟨b,off+k * 2+1,none⟩=some (.slice aw ws.length cw) from by
     refine⟨?_,?_,?_,?_,?_,keeps_of_below (boxW _ hW) _ _ g0,keeps_of_below (boxW _ hW) _ _ g1⟩
     ·simpa using box_cell hW 0
     ·simpa using box_cell hW 1
     ·simpa using box_cell hW 2
     ·simpa using box_cell hW 3
     ·simpa using box_cell hW 4))
    have HC2:=Lib.hid (fun W (hW:Below wr.heap.size wr W) (hWp:Below (w.heap.size+1) (w.alloc (.cells #[.slice av vs.length cv,.slice ah hard.length ch,.slice ao soft.length co,.slice (some ⟨b,off,none⟩) ds.length cd,.slice ag gs.length cg] 27)) W)=>(HC.out W (boxW _ hWp) (HWt.out W hW)).mono (R':=fun e w'=>∃ ax cx,e=.returned (.agg #[.int .i64 R.op,.int .i64 R.n,.string R.name,.slice ax R.args.length cx])∧Hid (ExOn (W.heap.size≤·) w' R ax cx)∧Hid (Below W.heap.size W w')∧Below (w.heap.size+1) (w.alloc (.cells #[.slice av vs.length cv,.slice ah hard.length ch,.slice ao soft.length co,.slice (some ⟨b,off,none⟩) ds.length cd,.slice ag gs.length cg] 27)) w') (fun e w' ⟨ax,cx,h1,h2,h3⟩=>⟨ax,cx,h1,h2,h3,hWp.trans (h3.mono (by have:=hWp.size;simpa using this))⟩))
    clear g0 g1
    have hBp:=HB.out
    go_wp2_with fail
    go_region_held3 (fun w'=>Below (w.heap.size+1) (w.alloc (.cells #[.slice av vs.length cv,.slice ah hard.length ch,.slice ao soft.length co,.slice (some ⟨b,off,none⟩) ds.length cd,.slice ag gs.length cg] 27)) w'∧w'.cell? ⟨w.heap.size,0,none⟩=some (.slice av vs.length cv)∧w'.cell? ⟨w.heap.size,1,none⟩=some (.slice ah hard.length ch)∧w'.cell? ⟨w.heap.size,2,none⟩=some (.slice ao soft.length co)∧w'.cell? ⟨w.heap.size,3,none⟩=some (.slice (some ⟨b,off,none⟩) ds.length cd)∧w'.cell? ⟨w.heap.size,4,none⟩=some (.slice ag gs.length cg)∧w'.cell? ⟨b,off+k * 2,none⟩=some (.int .i64 var)∧w'.cell? ⟨b,off+k * 2+1,none⟩=some (.slice aw ws.length cw))
     ((refine(fun h=>⟨h,HALL.out _ h⟩) ?_;first | assumption | exact bel))
     (first
      | (refine own_step elemEx (by rfl) (.tmp 15) (.tmp 23) (by rfl) (w.heap.size+1) _ (ST k).length _ (by rfl) (HO3.out.alloc _) [.int .i64 R.op,.int .i64 R.n,.string R.name,.slice ax R.args.length cx] (by rfl) (by simp[Value.oneCell']) w3.heap.size 1 (by rfl) (heap_alloc_new' w3 _) (by have:=HLn.out;omega) (by simp;omega) (w3.heap.size+1) (by simp) ?_;intro g cap w4 hown4 hg4 hat hlt4;have hB4:Below (w.heap.size+1) (w.alloc (.cells #[.slice av vs.length cv,.slice ah hard.length ch,.slice ao soft.length co,.slice (some ⟨b,off,none⟩) ds.length cd,.slice ag gs.length cg] 27)) w4:=Below.grown (B:=w.heap.size+1) (HB3.out.alloc (by omega) _) hg4 (by simp;omega) (fun q hq=>(HO3.out.lt q hq).1))
      | (go_at_call 216;(with_reducible refine(HC2.out _ bel (And.left (by assumption))).mono ?_);rintro e w3 ⟨ax,cx,rfl,hx3,hb3,hB3⟩;obtain⟨xs,ho3,hnx⟩:=HAp.out _ w3 ax cx bel hx3.out hb3.out;have HO3:=Lib.hid ho3;have HNX:=Lib.hid hnx;have HB3:=Lib.hid hB3;have hz3:=hB3.size;simp only[World.size_alloc] at hz3;clear ho3 hnx hx3 hb3))
    all_goals
     have HO4:=HNX
     have HO4:=Lib.hid (HO4.out g cap w4 hown4 hg4 (hat.imp id (by omega)))
     rw[← HN.out] at HO4
     have HB4:=Lib.hid hB4
     clear hown4 hg4 hat hlt4
     go_wp2_with fail
    all_goals
     go_roundw
     case rel=>exact⟨k+1,by go_num,by omega,HO4.out,HB4.out⟩
     case measure=>simp[intOf];omega
   ·obtain rfl:k=ds.length:=by omega
    go_wp2_with fail
    go_ret
    exact HRt.out _ _ _ HBw.out (Nat.le_succ _) HO.out
end Go.Proofs.YtcplmcjbkpmhdaaGreatDoor
namespace Go.Proofs.YtcplmcjbkpmhdaaGreatDoor
open Go.RowKit
attribute [local go_sem ↓] Go.wp_at_zero Go.wp_at_succ
theorem exRow_snoc {wr w4:World} {v:Value} {l:List Ex} {xs news:List Value} {e:Ex} {g n cap:Nat} {o:Obj} (hr:ExRowOn (fun k=>v.ownBlock≠some k) wr l xs) (he:ExRowOn (fun k=>v.ownBlock≠some k) wr [e] news)
  (hg:(wr.alloc o).grownBy w4 v.ownBlock) (hat:v.ownBlock=some g∨wr.heap.size < g) :
  ExRowOn (fun k=>(Value.slice (some ⟨g,0,none⟩) n cap).ownBlock≠some k) w4 (l++[e]) (xs++news):=fun w' hw'=>(hr.append he) w' (fun p u hp hc=>by
 have hlt:=World.block_lt_of_cell? _ _ hc
 refine hw' p u (fun h=>?_) ?_
 ·have h4:g=p.block:=by simpa [Value.ownBlock] using h
  rcases hat with h5 | h5
  ·exact hp (by rw[h5,h4])
  ·omega
 ·have h3:(wr.alloc o).cell? p=some u:=(World.cell?_alloc_lt _ _ _ hlt).trans hc
  rw[World.cell?_of_block (hg.block p.block (by simp;omega) (fun h9=>hp h9.symm))]
  exact h3)
theorem chos_flag {p:ProbD} {s:List Bool} {k:Nat} (h:k < s.length) (hk:k < p.hard.length):chosL p (idxF 0 (s.take (k+1)))=chosL p (idxF 0 (s.take k))++(if (s[k]'h)=true then [p.hard[k]'hk] else []):=by
 unfold chosL
 rw[List.take_succ_eq_append_getElem h,idxF_append,pickL_append,List.append_assoc]
 congr 1
 congr 1
 rw[List.length_take,Nat.min_eq_left (Nat.le_of_lt h),Nat.zero_add]
 cases (s[k]'h) with
 | false=>simp[idxF,pickL]
 | true=>simp[idxF,pickL,hk]
theorem chos_flag0 (p:ProbD) (s:List Bool):chosL p (idxF 0 (s.take 0))=suppsE p:=by
 unfold chosL
 rw[List.take_zero]
 show suppsE p++pickL p []=_
 rw[pickL_nil,List.append_nil]
theorem chos_flag_len {p:ProbD} (s:List Bool):∀ k,(chosL p (idxF 0 (s.take k))).length≤(suppsE p).length+s.length:=by
 intro k
 unfold chosL
 rw[List.length_append]
 have h1:=pickL_len p (idxF 0 (s.take k))
 have h2:=idxF_len (s.take k) 0
 have h3:(s.take k).length≤s.length:=by rw[List.length_take];omega
 omega
set_option maxHeartbeats 8000000 in
set_option maxRecDepth 100000 in
theorem chosen_any (p:ProbD) (x:ProbA) (s:List Bool) (a:Option Addr) (c:Nat) (w:World) (hp:CorOk p) (hE:ProbIn w p x) (hS:BoolsIn w s a c) (hl:s.length=p.hard.length) :
  Calls Tryz.prog 118 #[probVal p x,.slice a s.length c] w fun e w'=>(∃ va vc,e=.returned (.slice va (chosL p (idxF 0 s)).length vc)∧ExsIn w' (chosL p (idxF 0 s)) va vc)∧Below w.heap.size w w':=by
 have HSu:=Lib.hid (fun W (hW:Below w.heap.size w W)=>r22SupportO_any p x W (hE.below hW) hp.small hp.ok)
 unfold SupOwn at HSu
 have HSn:Hid (∀ k (h:k < s.length),chosL p (idxF 0 (s.take (k+1)))=chosL p (idxF 0 (s.take k))++(if (s[k]'h)=true then [p.hard[k]'(by omega)] else [])):=fun k h=>chos_flag h (by omega)
 have HS0:Hid (suppsE p=chosL p (idxF 0 (s.take 0))):=(chos_flag0 p s).symm
 have HLn:Hid (∀ k,(chosL p (idxF 0 (s.take k))).length≤1049576):=fun k=>by
  have h1:=chos_flag_len (p:=p) s k
  have h2:(suppsE p).length≤1048576:=by unfold suppsE;rw[List.length_map];exact hp.dl
  have h3:=hp.hl
  omega
 have HEnd:Hid (chosL p (idxF 0 (s.take s.length))=chosL p (idxF 0 s)):=by show _=_;rw[List.take_length]
 have HB:=Lib.hid hS
 have HH:=Lib.hid hE.hard
 obtain⟨ST,hST⟩:∃ ST:Nat→List Ex,∀ k,chosL p (idxF 0 (s.take k))=ST k:=⟨_,fun _=>rfl⟩
 simp only[hST] at HSn HS0 HLn HEnd
 clear hST
 rw[HS0.out] at HSu
 generalize chosL p (idxF 0 s)=R at HEnd⊢
 clear hp hE hS
 simp only[probVal_eq] at HSu⊢
 obtain⟨vs,hard,soft,ds,gs⟩:=p
 obtain⟨av,cv,ah,ch,ao,co,ad,cd,ag,cg⟩:=x
 simp only at HSu HSn HH hl⊢
 go_enter Tryz.func118, Tryz.ntmps118
 go_wp2_with fail
 refine(HSu.out _ ((Below.refl _ _).alloc (Nat.le_refl _) _)).mono ?_
 rintro e w1 ⟨⟨v,rfl,hown⟩,hb1⟩
 simp only[World.size_alloc] at hb1 hown
 have HB1:=Lib.hid hb1
 have hz1:=hb1.size
 simp only[World.size_alloc] at hz1
 obtain⟨xs0,ho0,hr0⟩:=hown
 have HO1:=Lib.hid ho0
 have HR1:Hid (ExRowOn (fun k=>v.ownBlock≠some k) w1 (ST 0) xs0):=hr0.mono fun k hk=>hk.2
 clear hb1 HSu ho0 hr0
 go_wp2_with fail
 go_loopw [6,5] (fun i v wr=>∃ (k:Nat) (xs:List Value),i=.int .i64 k∧k≤s.length∧Hid (wr.ownsRow (w.heap.size+1) 55 4 v (ST k).length xs)∧Hid (ExRowOn (fun k=>v.ownBlock≠some k) wr (ST k) xs)∧Hid (Below (w.heap.size+1) (w.alloc (.cells #[.slice av vs.length cv,.slice ah hard.length ch,.slice ao soft.length co,.slice ad ds.length cd,.slice ag gs.length cg] 27)) wr)) (fun i _ _=>s.length - (intOf i).toNat)
 case atStart=>exact⟨0,xs0,rfl,Nat.zero_le _,HO1,HR1,HB1⟩
 case round =>
  obtain⟨k,xs,rfl,hk,HO,HR,HBr⟩:=hrel
  have HBw:=Lib.hid (boxW _ HBr.out)
  ((try clear b0 b1 b2 b3 b4);have b0:=box_cell HBr.out 0;have b1:=box_cell HBr.out 1;have b2:=box_cell HBr.out 2;have b3:=box_cell HBr.out 3;have b4:=box_cell HBr.out 4;(try simp at b0 b1 b2 b3 b4))
  have hzr:=HBr.out.size
  simp only[World.size_alloc] at hzr
  have hln:=HLn.out k
  have hsl:=HB.out.2.1
  have hkw:IntKind.i64.wrap ((k:Int)+1)=(k:Int)+1:=by rw[IntKind.wrap_i64];omega
  by_cases hlt:k < s.length
  ·obtain⟨sb,so,hsa⟩:=HB.out.addr.resolve_left (by omega)
   subst hsa
   have s0:=(keeps_of_below HBw.out) _ _ (HB.out.get rfl hlt)
   have hj:k < hard.length:=by omega
   obtain⟨hb,ho,hha⟩:=HH.out.addr.resolve_left (by omega)
   subst hha
   obtain⟨ea,ec,g0,g1,g2,g3,hX⟩:=HH.out.elt hj
   have kk:=keeps_of_below HBw.out
   have c0:=kk _ _ g0
   have c1:=kk _ _ g1
   have c2:=kk _ _ g2
   have c3:=kk _ _ g3
   have HN:=Lib.hid (HSn.out k hlt)
   generalize (hard[k]'hj)=e at c0 c1 c2 c3 hX HN
   have HXe:Hid (ExRowOn (fun k=>u5.ownBlock≠some k) wr [e] [.int .i64 e.op,.int .i64 e.n,.string e.name,.slice ea e.args.length ec]):=fun w' hw'=>hX w' (fun p v h=>hw' p v (fun h9=>by
    have h8:=(HO.out.lt _ h9).1
    have h7:=World.block_lt_of_cell? _ _ h
    omega) (kk _ _ h))
   have hj0:(0:Int)≤(k:Int):=by omega
   clear g0 g1 g2 g3 hX kk
   cases hf:(s[k]'hlt)
   ·rw[hf] at s0 HN
    have HN1:Hid (ST (k+1)=ST k):=Lib.hid (by have h:=HN.out;simpa using h)
    clear hf HN
    go_wp2_with fail
    go_roundw
    case rel=>exact⟨k+1,xs,by go_num,by omega,by rw[HN1.out];exact HO,by rw[HN1.out];exact HR,HBr⟩
    case measure=>(simp[intOf];try omega)
   ·rw[hf] at s0 HN
    have HN1:Hid (ST (k+1)=ST k++[e]):=Lib.hid (by have h:=HN.out;simpa using h)
    clear hf HN
    go_wp2_with (at_builtin;go_must (refine own_appx elemEx _ rfl (.tmp 19) (.tmp 25) rfl (w.heap.size+1) _ (ST k).length xs rfl HO.out [.int .i64 e.op,.int .i64 e.n,.string e.name,.slice ea e.args.length ec] 1 _ _ rfl (by simp[Value.oneCell']) rfl rfl (by omega) (by omega) (by omega) ?_))
    intro g gcap w4 hown4 hg4 hat
    have HR4:=Lib.hid (exRow_snoc (n:=(ST k).length+1) (cap:=gcap) HR.out HXe.out hg4 hat)
    have HB4:=Lib.hid (Below.grown (B:=w.heap.size+1) (HBr.out.alloc (by omega) _) hg4 (by simp;omega) (fun q hq=>(HO.out.lt q hq).1))
    have hne:(ST (k+1)).length=(ST k).length+1:=by rw[HN1.out,List.length_append,List.length_singleton]
    have HO4:=Lib.hid hown4
    clear hown4 hg4 hat
    go_wp2_with fail
    go_roundw
    case rel=>exact⟨k+1,_,by go_num,by omega,by rw[hne];exact HO4,by rw[HN1.out];exact HR4,HB4⟩
    case measure=>(simp[intOf];try omega)
  ·obtain rfl:k=s.length:=by omega
   obtain⟨va,vc,rfl,hvI⟩:=exs_of_own HO.out (HR.out wr (fun _ _ _ h=>h)) (by omega)
   rw[HEnd.out] at hvI⊢
   have HvI:=Lib.hid hvI
   clear hvI HO HR
   go_wp2_with fail
   go_ret
   exact⟨⟨va,vc,rfl,HvI.out⟩,HBw.out⟩
end Go.Proofs.YtcplmcjbkpmhdaaGreatDoor
namespace Go.Proofs.YtcplmcjbkpmhdaaGreatDoor
open Go.RowKit
attribute [local go_sem ↓] Go.wp_at_zero Go.wp_at_succ
abbrev valsB (l:List Bool):List Value:=l.map Value.bool
set_option maxHeartbeats 4000000 in
set_option maxRecDepth 100000 in
theorem full_any (p:ProbD) (x:ProbA) (w:World) (hn:p.hard.length≤1000) :
  Calls Tryz.prog 63 #[probVal p x] w fun e w'=>(∃ v,e=.returned v∧w'.ownsRow w.heap.size 4 1 v p.hard.length (valsB (List.replicate p.hard.length true)))∧Below w.heap.size w w':=by
 simp only[probVal_eq]
 obtain⟨vs,hard,soft,ds,gs⟩:=p
 obtain⟨av,cv,ah,ch,ao,co,ad,cd,ag,cg⟩:=x
 simp only at hn⊢
 generalize hard.length=n at *
 have HV:Hid ((valsB (List.replicate n true)).length=n):=by show _=_;unfold valsB;rw[List.length_map,List.length_replicate]
 have HVg:Hid (∀ k (h:k < n) (h':k < (valsB (List.replicate n true)).length),(valsB (List.replicate n true))[k]'h'=.bool true):=fun k h h'=>by simp[valsB]
 generalize valsB (List.replicate n true)=V at HV HVg⊢
 go_enter Tryz.func63, Tryz.ntmps63
 go_wp2_with (at_make;go_must (refine make_blk elemBo rfl (.tmp 7) (.tmp 7) rfl n _ rfl rfl (by simp) (by omega) ?_))
 intro cur hcur
 have hcur:cur.length=n:=by simpa using hcur
 generalize hW1:(w.alloc (.cells #[.slice av vs.length cv,.slice ah n ch,.slice ao soft.length co,.slice ad ds.length cd,.slice ag gs.length cg] 27))=w1
 have HB1:Hid (Below w.heap.size w w1):=by show Below _ _ _;rw[← hW1];exact bel
 have hz1:w1.heap.size=w.heap.size+1:=by rw[← hW1];simp
 have HK1:Hid (∀ o,(w1.alloc o).heap[w.heap.size+1]? = some o):=fun o=>by rw[← hz1];exact heap_alloc_new' _ _
 clear hW1
 have HoA:Hid ((w1.alloc (.cells cur.toArray 4)).ownsRow w.heap.size 4 1 (.slice (some ⟨w.heap.size+1,0,none⟩) n n) n cur):=⟨by omega,Or.inr ⟨w.heap.size+1,n,_,rfl,by omega,HK1.out _,Nat.le_refl _,by unfold maxLen;omega,by simp[hcur],by simp only[];exact List.take_of_length_le (by omega)⟩⟩
 have HBA:Hid (Below w.heap.size w (w1.alloc (.cells cur.toArray 4))):=HB1.out.alloc (by omega) _
 generalize w1.alloc (.cells cur.toArray 4)=wA at HoA HBA⊢
 go_wp2_with fail
 go_loopw [4] (fun i wq=>∃ t:Nat,i=.int .i64 t∧t≤n∧Hid (wq.ownsRow w.heap.size 4 1 (.slice (some ⟨w.heap.size+1,0,none⟩) n n) n (V.take t++cur.drop t))∧Hid (Below w.heap.size w wq)) (fun i _=>n - (intOf i).toNat)
 case atStart=>exact⟨0,rfl,Nat.zero_le _,by simpa using HoA,HBA⟩
 case round =>
  obtain⟨t,rfl,ht,HO,HB⟩:=hrel
  by_cases hlt:t < n
  ·have hxd:t < (V.take t++cur.drop t).length:=by rw[List.length_append,List.length_take,List.length_drop,HV.out];omega
   have hcz:=HO.out.cellAt t (by omega)
   rw[List.getElem?_eq_getElem hxd] at hcz
   have hfz:=HO.out.frozenAt t
   have hSt:=(HO.out.stored t (.bool true)).1
   have htv:t < V.length:=by rw[HV.out];exact hlt
   rw[← HVg.out t hlt htv,fill_set htv (by rw[HV.out];exact hcur)] at hSt
   rw[HVg.out t hlt htv] at hSt
   have HSt:=Lib.hid hSt
   have HB2:Hid (Below w.heap.size w (wr.setCell ⟨w.heap.size+1,t,none⟩ (.bool true))):=HB.out.setCell (show w.heap.size≤w.heap.size+1 by omega) _
   clear hSt
   go_wp2_with fail
   go_roundw
   case rel=>exact⟨t+1,by go_num,by omega,HSt,HB2⟩
   case measure=>(simp[intOf];try omega)
  ·obtain rfl:t=n:=by omega
   have hO:=HO.out
   rw[List.take_of_length_le (by rw[HV.out];exact Nat.le_refl _),List.drop_of_length_le (by omega),List.append_nil] at hO
   have HO2:=Lib.hid hO
   clear hO HO
   go_wp2_with fail
   go_ret
   exact⟨⟨_,rfl,HO2.out⟩,HB.out⟩
set_option maxHeartbeats 4000000 in
set_option maxRecDepth 100000 in
theorem contradicts_any (p:ProbD) (x:ProbA) (s:List Bool) (a:Option Addr) (c:Nat) (w:World) (hp:CorOk p) (hE:ProbIn w p x) (hS:BoolsIn w s a c) (hl:s.length=p.hard.length) :
  Calls Tryz.prog 62 #[probVal p x,.slice a s.length c] w fun e w'=>e=.returned (.bool (conT p (idxF 0 s)))∧Below w.heap.size w w':=by
 have HCh0:=Lib.hid (fun W (hW:Below w.heap.size w W)=>chosen_any p x s a c W hp (hE.below hW) (hS.keep (keeps_of_below hW)) hl)
 have HSo0:Hid (∀ va vc W,Below w.heap.size w W→ExsIn W (chosL p (idxF 0 s)) va vc→Calls Tryz.prog 19 #[probVal p x,.slice va (chosL p (idxF 0 s)).length vc] W fun e w'=>e=.returned (.tuple #[.bool (!conT p (idxF 0 s)),.int .i64 0])∧Below W.heap.size W w'):=fun va vc W hW hL=>(r22Solvable_any p x _ va vc W (hE.below hW) hp.small hL (chosL_small hp.ok hp.small _)).mono fun e w' h=>by
  rw[(chosL_solv hp.ok _).1,(chosL_solv hp.ok _).2] at h
  exact h
 generalize conT p (idxF 0 s)=cq at HSo0⊢
 generalize chosL p (idxF 0 s)=R at HCh0 HSo0
 clear hp hE hS hl
 simp only[probVal_eq] at HCh0 HSo0⊢
 obtain⟨vs,hard,soft,ds,gs⟩:=p
 obtain⟨av,cv,ah,ch,ao,co,ad,cd,ag,cg⟩:=x
 simp only at HCh0 HSo0⊢
 have HCh:Hid (∀ W,Below (w.heap.size+1) (w.alloc (.cells #[.slice av vs.length cv,.slice ah hard.length ch,.slice ao soft.length co,.slice ad ds.length cd,.slice ag gs.length cg] 27)) W→Calls Tryz.prog 118 #[.agg #[.slice av vs.length cv,.slice ah hard.length ch,.slice ao soft.length co,.slice ad ds.length cd,.slice ag gs.length cg],.slice a s.length c] W fun e w'=>(∃ va vc,e=.returned (.slice va R.length vc)∧ExsIn w' R va vc)∧Below W.heap.size W w'∧Below (w.heap.size+1) (w.alloc (.cells #[.slice av vs.length cv,.slice ah hard.length ch,.slice ao soft.length co,.slice ad ds.length cd,.slice ag gs.length cg] 27)) w'):=fun W hW=>(HCh0.out W (boxW _ hW)).mono fun e w' h=>⟨h.1,h.2,hW.trans (h.2.mono (by have:=hW.size;simpa using this))⟩
 have HSo:Hid (∀ va vc W,Below (w.heap.size+1) (w.alloc (.cells #[.slice av vs.length cv,.slice ah hard.length ch,.slice ao soft.length co,.slice ad ds.length cd,.slice ag gs.length cg] 27)) W→ExsIn W R va vc→Calls Tryz.prog 19 #[.agg #[.slice av vs.length cv,.slice ah hard.length ch,.slice ao soft.length co,.slice ad ds.length cd,.slice ag gs.length cg],.slice va R.length vc] W fun e w'=>e=.returned (.tuple #[.bool (!cq),.int .i64 0])∧Below W.heap.size W w'∧Below (w.heap.size+1) (w.alloc (.cells #[.slice av vs.length cv,.slice ah hard.length ch,.slice ao soft.length co,.slice ad ds.length cd,.slice ag gs.length cg] 27)) w'):=fun va vc W hW hL=>(HSo0.out va vc W (boxW _ hW) hL).mono fun e w' h=>⟨h.1,h.2,hW.trans (h.2.mono (by have:=hW.size;simpa using this))⟩
 have HALL:Hid (∀ W,Below (w.heap.size+1) (w.alloc (.cells #[.slice av vs.length cv,.slice ah hard.length ch,.slice ao soft.length co,.slice ad ds.length cd,.slice ag gs.length cg] 27)) W→W.cell? ⟨w.heap.size,0,none⟩=some (.slice av vs.length cv)∧W.cell? ⟨w.heap.size,1,none⟩=some (.slice ah hard.length ch)∧W.cell? ⟨w.heap.size,2,none⟩=some (.slice ao soft.length co)∧W.cell? ⟨w.heap.size,3,none⟩=some (.slice ad ds.length cd)∧W.cell? ⟨w.heap.size,4,none⟩=some (.slice ag gs.length cg)):=fun W hW=>by
  have k:=box_cell hW
  have k0:=k 0
  have k1:=k 1
  have k2:=k 2
  have k3:=k 3
  have k4:=k 4
  simp at k0 k1 k2 k3 k4
  exact⟨k0,k1,k2,k3,k4⟩
 have hb0:Below (w.heap.size+1) (w.alloc (.cells #[.slice av vs.length cv,.slice ah hard.length ch,.slice ao soft.length co,.slice ad ds.length cd,.slice ag gs.length cg] 27)) (w.alloc (.cells #[.slice av vs.length cv,.slice ah hard.length ch,.slice ao soft.length co,.slice ad ds.length cd,.slice ag gs.length cg] 27)):=Below.refl _ _
 clear HCh0 HSo0
 go_enter Tryz.func62, Tryz.ntmps62
 obtain⟨b0,b1,b2,b3,b4⟩:=HALL.out _ hb0
 go_wp2_with fail
 go_region_held3 (fun w'=>Below (w.heap.size+1) (w.alloc (.cells #[.slice av vs.length cv,.slice ah hard.length ch,.slice ao soft.length co,.slice ad ds.length cd,.slice ag gs.length cg] 27)) w'∧w'.cell? ⟨w.heap.size,0,none⟩=some (.slice av vs.length cv)∧w'.cell? ⟨w.heap.size,1,none⟩=some (.slice ah hard.length ch)∧w'.cell? ⟨w.heap.size,2,none⟩=some (.slice ao soft.length co)∧w'.cell? ⟨w.heap.size,3,none⟩=some (.slice ad ds.length cd)∧w'.cell? ⟨w.heap.size,4,none⟩=some (.slice ag gs.length cg))
  ((refine(fun h=>⟨h,HALL.out _ h⟩) ?_;first | with_reducible assumption | exact bel))
  (first
   | (go_at_call 118;(with_reducible refine(HCh.out _ (by first | with_reducible assumption | exact bel)).mono ?_);rintro e w1 ⟨⟨va,vc,rfl,hL1⟩,hb1,hB1⟩)
   | (go_at_call 19;(with_reducible refine(HSo.out _ _ _ (by first | with_reducible assumption | exact bel) (by first | exact hL1 | exact hL1.keep (fun _ _ h=>h))).mono ?_);rintro e w2 ⟨rfl,hb2,hB2⟩))
 all_goals
  go_wp2_with fail
  go_ret
  exact⟨by cases cq<;>rfl,boxW _ hB2⟩
end Go.Proofs.YtcplmcjbkpmhdaaGreatDoor
namespace Go.Proofs.YtcplmcjbkpmhdaaGreatDoor
open Go.RowKit
attribute [local go_sem ↓] Go.wp_at_zero Go.wp_at_succ
theorem own_boolsI {ops:Array Oper} {rest:List Oper} {o:Oper} {a:Act} {Q:Exit→Act→World→Prop} (w:World) (hgd:o.guard=none) (s x:Operand)
  (ho:o.op=.call { callee:=.builtin .append,args:=#[s,x],argTypes:=#[89, 89] })
  (base:Nat) (v:Value) (n:Nat) (xs:List Value) (hs:a.eval s=v) (hown:w.ownsRow base 4 1 v n xs)
  (l:List Bool) (ad:Option Addr) (c:Nat) (w0:World) (hE:BoolsIn w0 l ad c) (hk:∀ a v,w0.cell? a=some v→w.cell? a=some v) (hx:a.eval x=.slice ad l.length c) (hn:n+l.length≤4294967296) (hbase:base≤w.heap.size)
  (h:∀ v' w',w'.ownsRow base 4 1 v' (n+l.length) (xs++valsB l)→w.grownBy w' v.ownBlock→wpList Tryz.prog ops Q rest (a.put o.dst v') w'):wpList Tryz.prog ops Q (o::rest) a w:=by
 rcases hE.2.2 with h0 | ⟨b,off,rfl,hc⟩
 ·obtain rfl:l=[]:=List.eq_nil_of_length_eq_zero h0
  cases ad with
  | none =>
   obtain⟨ht,i,z,bytes,hi,hz,hsz,hby,hzs,h0,hb⟩:=elemBo
   refine Lib.wpList_append_run w hgd s x 89 89 ho v (.slice none 0 c) hs hx v w (run_append_none' w base 89 o.type 4 i 1 ht hi v n c xs hown) ?_
   exact h v w (by simpa using hown) (World.grownBy.refl _ _)
  | some ad =>
   obtain⟨ht,i,z,bytes,hi,hz,hsz,hby,hzs,h0,hb⟩:=elemBo
   refine wpList_append_own w hgd s x 89 ho base 4 i z 1 bytes ht hi hz hsz hby hzs h0 v n xs hs hown ad 0 c [] hx rfl (fun j u hj=>by simp at hj) (fun u hu=>by cases hu) (by unfold maxLen;simp at hn;omega) ?_ hbase (fun v' w' h2 h3 _=>h v' w' h2 h3)
   calc (n+0) * bytes≤4294967296 * 1024:=Nat.mul_le_mul (by simp at hn;omega) hb
    _≤_:=by decide
 ·refine own_row elemBo w hgd s x ho base v n xs hs hown (valsB l) b off l.length c (by unfold valsB;rw[List.length_map,Nat.mul_one]) (fun j u hu=>?_) (fun u hu=>?_) hx hn hbase (fun v' w' h4 h5=>h v' w' h4 h5)
  ·unfold valsB at hu
   rw[List.getElem?_map] at hu
   obtain⟨n0,hn0,rfl⟩:=Option.map_eq_some_iff.1 hu
   obtain⟨hj,rfl⟩:=List.getElem?_eq_some_iff.1 hn0
   obtain⟨n1,e1,e2⟩:=hc j hj
   rw[List.getElem?_eq_getElem hj] at e1
   obtain rfl:=Option.some.inj e1
   rw[Nat.mul_one] at e2
   exact hk _ _ e2
  ·unfold valsB at hu
   obtain⟨n0,_,rfl⟩:=List.mem_map.1 hu
   rfl
theorem valsB_set (s:List Bool) (k:Nat) (b:Bool):(valsB s).set k (.bool b)=valsB (s.set k b):=by unfold valsB;rw[List.map_set]
theorem idx_len_le (s:List Bool) (k:Nat):(idxF 0 (s.take k)).length≤s.length:=by
 have:=idxF_len (s.take k) 0
 have h:(s.take k).length≤s.length:=by rw[List.length_take];omega
 omega
theorem idx_step {s:List Bool} {k:Nat} (h:k < s.length):idxF 0 (s.take (k+1))=idxF 0 (s.take k)++(if (s[k]'h)=true then [k] else []):=by
 rw[List.take_succ_eq_append_getElem h,idxF_append]
 congr 1
 rw[List.length_take,Nat.min_eq_left (Nat.le_of_lt h),Nat.zero_add]
 cases (s[k]'h)<;>simp[idxF]
theorem set_back {s:List Bool} {k:Nat} (h:k < s.length) (ht:(s[k]'h)=true):(s.set k false).set k true=s:=by
 rw[List.set_set]
 refine List.ext_getElem? fun j=>?_
 rw[List.getElem?_set]
 split
 ·next e=>subst e;simp[h,ht]
 ·rfl
end Go.Proofs.YtcplmcjbkpmhdaaGreatDoor
namespace Go.Proofs.YtcplmcjbkpmhdaaGreatDoor
open Go.RowKit
attribute [local go_sem ↓] Go.wp_at_zero Go.wp_at_succ
theorem bools_any {w:World} {B:Nat} {v:Value} {s:List Bool} (h:w.ownsRow B 4 1 v s.length (valsB s)) (hn:s.length≤1000) (h0:0 < s.length):∃ g cap,v=.slice (some ⟨g,0,none⟩) s.length cap:=by
 rcases h.2 with ⟨e0,_⟩ | ⟨g,cap,cur,rfl,_⟩
 ·obtain⟨a,c,hv,-⟩:=bools_of_own h (by omega)
  rw[e0] at hv
  injection hv with _ h2 _
  omega
 ·exact⟨g,cap,rfl⟩
set_option maxHeartbeats 16000000 in
set_option maxRecDepth 100000 in
theorem rwithin_any (p:ProbD) (x:ProbA) (s:List Bool) (a:Option Addr) (c:Nat) (w:World) (hp:CorOk p) (hE:ProbIn w p x) (hS:BoolsIn w s a c) (hl:s.length=p.hard.length) :
  Calls Tryz.prog 64 #[probVal p x,.slice a s.length c] w fun e w'=>(∃ v,e=.returned v∧w'.ownsRow 0 3 1 v (coreW p (idxF 0 s)).length (valsN (coreW p (idxF 0 s))))∧Below w.heap.size w w':=by
 have HCo:=Lib.hid (fun (r:List Bool) (hr:r.length=s.length) b d W (hW:Below w.heap.size w W) (hB:BoolsIn W r b d)=>contradicts_any p x r b d W hp (hE.below hW) hB (hr.trans hl))
 have HEq:Hid (idxF 0 (withinB (fun r=>conT p (idxF 0 r)) s.length s)=coreW p (idxF 0 s)):=within_all (conT p) s
 have HWs:Hid (∀ k r,withinB (fun r=>conT p (idxF 0 r)) (k+1) r=withinB (fun r=>conT p (idxF 0 r)) k (if r[k]? = some true then (if conT p (idxF 0 (r.set k false))=true then r.set k false else r) else r)):=fun k r=>rfl
 have HWz:Hid (∀ r,withinB (fun r=>conT p (idxF 0 r)) 0 r=r):=fun r=>rfl
 have HB:=Lib.hid hS
 have hs7:s.length≤7:=by rw[hl];exact hp.hl
 generalize coreW p (idxF 0 s)=R at HEq⊢
 obtain⟨WB,hWB⟩:∃ WB:Nat→List Bool→List Bool,∀ k r,withinB (fun r=>conT p (idxF 0 r)) k r=WB k r:=⟨_,fun _ _=>rfl⟩
 simp only[hWB] at HEq HWs HWz
 obtain⟨T,hT⟩:∃ T:List Bool→Bool,∀ r,conT p (idxF 0 r)=T r:=⟨_,fun _=>rfl⟩
 simp only[hT] at HCo HWs
 have HW0:Hid (∀ k r (h:k < r.length),(r[k]'h)=false→WB (k+1) r=WB k r):=fun k r h h2=>by rw[HWs.out,if_neg (by rw[List.getElem?_eq_getElem h,h2];simp)]
 have HW1:Hid (∀ k r (h:k < r.length),(r[k]'h)=true→T (r.set k false)=true→WB (k+1) r=WB k (r.set k false)):=fun k r h h2 h3=>by rw[HWs.out,if_pos (by rw[List.getElem?_eq_getElem h,h2]),if_pos h3]
 have HW2:Hid (∀ k r (h:k < r.length),(r[k]'h)=true→T (r.set k false)=false→WB (k+1) r=WB k r):=fun k r h h2 h3=>by rw[HWs.out,if_pos (by rw[List.getElem?_eq_getElem h,h2]),if_neg (by rw[h3];simp)]
 clear hp hE hS hT hWB HWs
 simp only[probVal_eq] at HCo⊢
 obtain⟨vs,hard,soft,ds,gs⟩:=p
 obtain⟨av,cv,ah,ch,ao,co,ad,cd,ag,cg⟩:=x
 simp only at HCo hl⊢
 clear hl
 have HBE:Hid (Below w.heap.size w (w.alloc (.cells #[.slice av vs.length cv,.slice ah hard.length ch,.slice ao soft.length co,.slice ad ds.length cd,.slice ag gs.length cg] 27))):=(Below.refl _ _).alloc (Nat.le_refl _) _
 have HOm:Hid (((w.alloc (.cells #[.slice av vs.length cv,.slice ah hard.length ch,.slice ao soft.length co,.slice ad ds.length cd,.slice ag gs.length cg] 27)).alloc (.cells #[] 4)).ownsRow (w.heap.size+1) 4 1 (.slice (some ⟨w.heap.size+1,0,none⟩) 0 0) 0 []):=by
  show World.ownsRow _ _ _ _ _ _ _
  have:=World.ownsRow_made (e:=4) (size:=1) (w.alloc (.cells #[.slice av vs.length cv,.slice ah hard.length ch,.slice ao soft.length co,.slice ad ds.length cd,.slice ag gs.length cg] 27)) #[] 0 (Nat.le_refl _) (Nat.zero_le _) rfl
  simpa using this
 go_enter Tryz.func64, Tryz.ntmps64
 go_wp2_with (at_builtin;go_must (refine own_boolsI _ rfl (.tmp 8) (.tmp 9) rfl (w.heap.size+1) _ 0 [] rfl HOm.out s a c w HB.out (fun a v h=>Lib.cell?_alloc_some _ (Lib.cell?_alloc_some _ h)) rfl (by omega) (by simp) ?_))
 intro v1 w2 hown hg
 have HB2:Hid (Below (w.heap.size+1) (w.alloc (.cells #[.slice av vs.length cv,.slice ah hard.length ch,.slice ao soft.length co,.slice ad ds.length cd,.slice ag gs.length cg] 27)) w2):=((Below.refl _ _).alloc (by simp) _).grown hg (by simp) (by intro k hk;simp[Value.ownBlock] at hk;omega)
 have HO2:=Lib.hid hown
 clear hown hg
 have HL0:Hid (s.length=s.length):=rfl
 obtain⟨va,vc,rfl,-⟩:=bools_of_own HO2.out (by omega)
 go_wp2_with fail
 go_loopw [5] (fun i wr=>∃ (k:Nat) (r:List Bool),i=.int .i64 ((k:Int) - 1)∧k≤s.length∧Hid (r.length=s.length)∧Hid (idxF 0 (WB k r)=R)∧Hid (wr.ownsRow (w.heap.size+1) 4 1 (.slice va s.length vc) s.length (valsB r))∧Hid (Below (w.heap.size+1) (w.alloc (.cells #[.slice av vs.length cv,.slice ah hard.length ch,.slice ao soft.length co,.slice ad ds.length cd,.slice ag gs.length cg] 27)) wr)) (fun i _=>(intOf i+1).toNat)
 case atStart=>exact⟨s.length,s,by first | rfl | (rw[IntKind.wrap_i64];congr 1;omega) | (congr 1;rw[IntKind.wrap_i64];omega),Nat.le_refl _,rfl,HEq,HO2,HB2⟩
 case round =>
  obtain⟨k,r,rfl,hk,HL,HW,HO,HBr⟩:=hrel
  have HBw:=Lib.hid (boxW _ HBr.out)
  cases k with
  | zero =>
   have HR:Hid (idxF 0 r=R):=by show _=_;rw[← HW.out,HWz.out]
   have hi:((0:Nat):Int) - 1=-1:=rfl
   rw[hi]
   clear HW
   have hr7:r.length≤7:=by rw[HL.out];exact hs7
   have HI0:Hid (valsN (idxF 0 (r.take 0))=[]∧(idxF 0 (r.take 0)).length=0):=⟨rfl,rfl⟩
   have HIs:Hid (∀ k (h:k < r.length),(idxF 0 (r.take (k+1))).length=(idxF 0 (r.take k)).length+(if (r[k]'h)=true then 1 else 0)∧valsN (idxF 0 (r.take (k+1)))=valsN (idxF 0 (r.take k))++(if (r[k]'h)=true then [.int .i64 (k:Int)] else [])):=fun k h=>by
    rw[idx_step h]
    cases (r[k]'h)<;>simp[valsN,intsN]
   have HIe:Hid (idxF 0 (r.take r.length)=R):=by show _=_;rw[List.take_length];exact HR.out
   have HIl:=Lib.hid (fun k=>Nat.le_trans (idx_len_le r k) hr7)
   have hLs:=HL.out
   rw[← hLs] at HO⊢
   have hzr:=HBr.out.size
   simp only[World.size_alloc] at hzr
   clear HR hLs HL hk
   go_wp2_with fail
   generalize wr=wt at *
   go_loopw [7,6] (fun i v wq=>∃ k:Nat,i=.int .i64 k∧k≤r.length∧Hid (wq.ownsRow (w.heap.size+1) 3 1 v (idxF 0 (r.take k)).length (valsN (idxF 0 (r.take k))))∧Hid (wq.ownsRow (w.heap.size+1) 4 1 (.slice va r.length vc) r.length (valsB r))∧Hid (Below (w.heap.size+1) (w.alloc (.cells #[.slice av vs.length cv,.slice ah hard.length ch,.slice ao soft.length co,.slice ad ds.length cd,.slice ag gs.length cg] 27)) wq)) (fun i _ _=>r.length - (intOf i).toNat)
   case atStart=>exact⟨0,rfl,Nat.zero_le _,by rw[HI0.out.1,HI0.out.2];exact World.ownsRow_nil _ _ _ _,HO,HBr⟩
   case round =>
    obtain⟨k,rfl,hk,HOk,HOb,HBk⟩:=hrel
    have hkw:IntKind.i64.wrap ((k:Int)+1)=(k:Int)+1:=by rw[IntKind.wrap_i64];omega
    have hzk:=HBk.out.size
    simp only[World.size_alloc] at hzk
    by_cases hlt:k < r.length
    ·obtain⟨g,cap',hva⟩:=bools_any (s:=r) HOb.out (by omega) (by omega)
     injection hva with q1 _ q3
     subst q1 q3
     have hvl:k < (valsB r).length:=by unfold valsB;rw[List.length_map];exact hlt
     have hcz:=HOb.out.cellAt k (by omega)
     rw[List.getElem?_eq_getElem hvl,show (valsB r)[k]'hvl=.bool (r[k]'hlt) from by simp[valsB]] at hcz
     have HN:=Lib.hid (HIs.out k hlt)
     have hil:=HIl.out k
     have hk0:(0:Int)≤(k:Int):=by omega
     have hkl:(k:Int) < (r.length:Int):=by omega
     clear hvl
     cases hb:(r[k]'hlt)
     ·rw[hb] at hcz HN
      have HN1:Hid ((idxF 0 (r.take (k+1))).length=(idxF 0 (r.take k)).length∧valsN (idxF 0 (r.take (k+1)))=valsN (idxF 0 (r.take k))):=Lib.hid (by
       have h:=HN.out
       simpa using h)
      clear hb HN
      go_wp2_with fail
      go_roundw
      case rel=>exact⟨k+1,by go_num,by omega,by rw[HN1.out.1,HN1.out.2];exact HOk,HOb,HBk⟩
      case measure=>(simp[intOf];try omega)
     ·rw[hb] at hcz HN
      have HN1:Hid ((idxF 0 (r.take (k+1))).length=(idxF 0 (r.take k)).length+1∧valsN (idxF 0 (r.take (k+1)))=valsN (idxF 0 (r.take k))++[.int .i64 (k:Int)]):=Lib.hid (by
       have h:=HN.out
       simpa using h)
      clear hb HN
      go_wp2_with (at_builtin;go_must (refine own_appx elemI _ rfl (.tmp 42) (.tmp 44) rfl (w.heap.size+1) _ (idxF 0 (r.take k)).length _ rfl HOk.out [.int .i64 (k:Int)] 1 _ _ rfl (by simp[Value.oneCell']) rfl rfl (by omega) (by omega) (by omega) ?_))
      intro g9 gcap w9 hown9 hg9 hat
      have HB9:=Lib.hid (Below.grown (B:=w.heap.size+1) (HBk.out.alloc (by omega) _) hg9 (by simp;omega) (fun q hq=>(HOk.out.lt q hq).1))
      have HOb9:=Lib.hid (ownsRow_kept_typeC (ownsRow_below HOb.out ((Below.refl _ _).alloc (Nat.le_refl _) _)) (ownsRow_below HOk.out ((Below.refl _ _).alloc (Nat.le_refl _) _)) (by decide) hg9)
      have HO9:=Lib.hid hown9
      clear hown9 hg9 hat
      go_wp2_with fail
      go_roundw
      case rel=>exact⟨k+1,by go_num,by omega,by rw[HN1.out.1,HN1.out.2];exact HO9,HOb9,HB9⟩
      case measure=>(simp[intOf];try omega)
    ·obtain rfl:k=r.length:=by omega
     have hO:=HOk.out
     rw[HIe.out] at hO
     have HOe:=Lib.hid (own_base hO (Nat.zero_le _))
     have HBe:=Lib.hid (boxW _ HBk.out)
     clear hO HOk
     go_wp2_with fail
     go_ret
     exact⟨⟨_,rfl,HOe.out⟩,HBe.out⟩
  | succ k =>
   have hi:((k+1:Nat):Int) - 1=(k:Int):=by omega
   rw[hi]
   have hk0:(0:Int)≤(k:Int):=by omega
   have hks:(k:Int) < (s.length:Int):=by omega
   have hkw:IntKind.i64.wrap ((k:Int) - 1)=(k:Int) - 1:=by rw[IntKind.wrap_i64];omega
   have hkr:k < r.length:=by rw[HL.out];omega
   have hvl:k < (valsB r).length:=by unfold valsB;rw[List.length_map];exact hkr
   obtain⟨g,cap',hva⟩:=bools_any (s:=r) (by rw[HL.out];exact HO.out) (by rw[HL.out];omega) (by omega)
   rw[HL.out] at hva
   injection hva with q1 _ q3
   subst q1 q3
   have hcz:=HO.out.cellAt k (by omega)
   rw[List.getElem?_eq_getElem hvl,show (valsB r)[k]'hvl=.bool (r[k]'hkr) from by simp[valsB]] at hcz
   have hfz:=HO.out.frozenAt k
   have hgl:=(HO.out.lt g rfl).1
   have HSt:Hid ((wr.setCell ⟨g,k,none⟩ (.bool false)).ownsRow (w.heap.size+1) 4 1 (.slice (some ⟨g,0,none⟩) s.length vc) s.length (valsB (r.set k false))):=by
    have h:=(HO.out.stored k (.bool false)).1
    rw[valsB_set] at h
    exact h
   have HBs:Hid (Below (w.heap.size+1) (w.alloc (.cells #[.slice av vs.length cv,.slice ah hard.length ch,.slice ao soft.length co,.slice ad ds.length cd,.slice ag gs.length cg] 27)) (wr.setCell ⟨g,k,none⟩ (.bool false))):=HBr.out.setCell (p:=⟨g,k,none⟩) hgl _
   have HL2:Hid ((r.set k false).length=s.length):=by show _=_;rw[List.length_set];exact HL.out
   have HX0:=Lib.hid (HW0.out k r hkr)
   have HX1:=Lib.hid (HW1.out k r hkr)
   have HX2:=Lib.hid (HW2.out k r hkr)
   have HX3:=Lib.hid (fun h=>set_back (s:=r) (k:=k) hkr h)
   clear hvl hi
   cases hb:(r[k]'hkr)
   ·rw[hb] at hcz
    have HW9:Hid (idxF 0 (WB k r)=R):=by show _=_;rw[← HX0.out hb];exact HW.out
    clear hb HX0 HX1 HX2 HX3 HW
    go_wp2_with fail
    go_roundw
    case rel=>exact⟨k,r,by go_num,by omega,HL,HW9,HO,HBr⟩
    case measure=>(simp[intOf];try omega)
   ·rw[hb] at hcz
    have HX1:=Lib.hid (HX1.out hb)
    have HX2:=Lib.hid (HX2.out hb)
    have HX3:=Lib.hid (HX3.out hb)
    clear HX0
    ((try clear b0 b1 b2 b3 b4);have b0:=box_cell HBs.out 0;have b1:=box_cell HBs.out 1;have b2:=box_cell HBs.out 2;have b3:=box_cell HBs.out 3;have b4:=box_cell HBs.out 4;(try simp at b0 b1 b2 b3 b4))
    have HCs:=Lib.hid (HCo.out (r.set k false) HL2.out (some ⟨g,0,none⟩) vc (wr.setCell ⟨g,k,none⟩ (.bool false)) (boxW _ HBs.out) (by
     obtain⟨a9,c9,hv9,hB9⟩:=bools_of_own (l:=r.set k false) (by rw[HL2.out];exact HSt.out) (by rw[HL2.out];omega)
     rw[HL2.out] at hv9
     injection hv9 with z1 _ z3
     subst z1 z3
     exact hB9))
    rw[HL2.out] at HCs
    go_wp2_with fail
    refine HCs.out.mono ?_
    rintro e w4 ⟨rfl,hb4⟩
    have HB4:=Lib.hid (HBs.out.trans (hb4.mono (by have:=HBs.out.size;simpa using this)))
    have HO4:=Lib.hid (ownsRow_below HSt.out hb4)
    clear hb4 b0 b1 b2 b3 b4 HCs
    cases ht:T (r.set k false)
    ·have HW9:Hid (idxF 0 (WB k r)=R):=by show _=_;rw[← HX2.out ht];exact HW.out
     have hcz4:=HO4.out.cellAt k (by omega)
     have hfz4:=HO4.out.frozenAt k
     have hvl2:k < (valsB (r.set k false)).length:=by unfold valsB;rw[List.length_map,HL2.out];omega
     rw[List.getElem?_eq_getElem hvl2] at hcz4
     have HSt5:Hid ((w4.setCell ⟨g,k,none⟩ (.bool true)).ownsRow (w.heap.size+1) 4 1 (.slice (some ⟨g,0,none⟩) s.length vc) s.length (valsB r)):=by
      have h:=(HO4.out.stored k (.bool true)).1
      rw[valsB_set,HX3.out] at h
      exact h
     have HB5:Hid (Below (w.heap.size+1) (w.alloc (.cells #[.slice av vs.length cv,.slice ah hard.length ch,.slice ao soft.length co,.slice ad ds.length cd,.slice ag gs.length cg] 27)) (w4.setCell ⟨g,k,none⟩ (.bool true))):=HB4.out.setCell (p:=⟨g,k,none⟩) hgl _
     clear ht HX1 HX2 HX3 HW
     go_wp2_with fail
     go_roundw
     case rel=>exact⟨k,r,by go_num,by omega,HL,HW9,HSt5,HB5⟩
     case measure=>(simp[intOf];try omega)
    ·have HW9:Hid (idxF 0 (WB k (r.set k false))=R):=by show _=_;rw[← HX1.out ht];exact HW.out
     clear ht HX1 HX2 HX3 HW
     go_wp2_with fail
     go_roundw
     case rel=>exact⟨k,r.set k false,by go_num,by omega,HL2,HW9,HO4,HB4⟩
     case measure=>(simp[intOf];try omega)
end Go.Proofs.YtcplmcjbkpmhdaaGreatDoor
namespace Go.Proofs.YtcplmcjbkpmhdaaGreatDoor
open Go.RowKit
attribute [local go_sem ↓] Go.wp_at_zero Go.wp_at_succ
theorem fullB (p:ProbD):idxF 0 (List.replicate p.hard.length true)=allL p:=by rw[idxF_full];exact List.range_eq_range'.symm
theorem fullB_any (p:ProbD) (x:ProbA) (w:World) (hn:p.hard.length≤1000) :
  Calls Tryz.prog 63 #[probVal p x] w fun e w'=>(∃ a c,e=.returned (.slice a p.hard.length c)∧BoolsIn w' (List.replicate p.hard.length true) a c)∧Below w.heap.size w w' :=
 (full_any p x w hn).mono fun e w' ⟨⟨v,h1,h2⟩,h3⟩=>by
  obtain⟨a,c,h4,h5⟩:=bools_of_own (l:=List.replicate p.hard.length true) (by rw[List.length_replicate];exact h2) (by rw[List.length_replicate];omega)
  rw[List.length_replicate] at h4
  exact⟨⟨a,c,by rw[h1,h4],h5⟩,h3⟩
set_option maxHeartbeats 8000000 in
set_option maxRecDepth 100000 in
theorem rCore_any (p:ProbD) (x:ProbA) (w:World) (hE:ProbIn w p x) (hs:ProbSmall p) (hT:ProbOk p→bitsTo p.vars p.vars.length≤10) (hd:p.dists.length≤1048576) (hh:p.hard.length≤7) :
  Calls Tryz.prog 23 #[probVal p x] w (CoreRet p w):=by
 have HV0:=Lib.hid (fun W (hW:Below w.heap.size w W)=>r14Valid_any p x W (hE.keep (keeps_of_below hW)) hs)
 by_cases hp:ProbOk p
 ·have hc:CorOk p:=⟨hp,hs,hT hp,hd,hh⟩
  have HV1:=Lib.hid (fun W hW=>errT (HV0.out W hW) hp)
  have HFu0:=Lib.hid (fun W=>fullB_any p x W (by omega))
  have HCo0:=Lib.hid (fun a c W (hW:Below w.heap.size w W) (hB:BoolsIn W (List.replicate p.hard.length true) a c)=>contradicts_any p x (List.replicate p.hard.length true) a c W hc (hE.below hW) hB List.length_replicate)
  have HWi0:=Lib.hid (fun a c W (hW:Below w.heap.size w W) (hB:BoolsIn W (List.replicate p.hard.length true) a c)=>rwithin_any p x (List.replicate p.hard.length true) a c W hc (hE.below hW) hB List.length_replicate)
  simp only[List.length_replicate,fullB] at HCo0 HWi0
  have HPo:Hid (∀ W,conT p (allL p)=false→Below w.heap.size w W→CoreRet p w (.returned (.tuple #[.slice none 0 0,.int .i64 13])) W):=fun W h1 h2=>by
   have e1:coreE p=13:=by unfold coreE;rw[if_pos (pB_true hp),if_neg (by rw[h1];simp)]
   have e2:coreL p=[]:=by unfold coreL;rw[if_pos (pB_true hp),if_neg (by rw[h1];simp)]
   refine⟨⟨_,by rw[e1],?_⟩,h2⟩
   rw[e2]
   exact World.ownsRow_nil _ _ _ _
  have HPn:Hid (∀ W v,conT p (allL p)=true→W.ownsRow 0 3 1 v (coreW p (allL p)).length (valsN (coreW p (allL p)))→Below w.heap.size w W→CoreRet p w (.returned (.tuple #[v,.int .i64 0])) W):=fun W v h1 h2 h3=>by
   have e1:coreE p=0:=by unfold coreE;rw[if_pos (pB_true hp),if_pos h1]
   have e2:coreL p=coreW p (allL p):=by unfold coreL;rw[if_pos (pB_true hp),if_pos h1]
   exact⟨⟨_,by rw[e1],by rw[e2];exact h2⟩,h3⟩
  generalize coreW p (allL p)=R at HWi0 HPn
  generalize hcv:conT p (allL p)=cq at HCo0 HPo HPn
  generalize CoreRet p w=Po at HPo HPn⊢
  simp only[probVal_eq] at HV1 HFu0 HCo0 HWi0⊢
  generalize List.replicate p.hard.length true=FB at HFu0 HCo0 HWi0
  clear hE hs hT hd hh HV0 hp hc hcv
  obtain⟨vs,hard,soft,ds,gs⟩:=p
  obtain⟨av,cv,ah,ch,ao,co,ad,cd,ag,cg⟩:=x
  simp only at HV1 HFu0 HCo0 HWi0⊢
  have HFu:Hid (∀ W,Below (w.heap.size+1) (w.alloc (.cells #[.slice av vs.length cv,.slice ah hard.length ch,.slice ao soft.length co,.slice ad ds.length cd,.slice ag gs.length cg] 27)) W→Calls Tryz.prog 63 #[.agg #[.slice av vs.length cv,.slice ah hard.length ch,.slice ao soft.length co,.slice ad ds.length cd,.slice ag gs.length cg]] W fun e w'=>(∃ a c,e=.returned (.slice a hard.length c)∧BoolsIn w' FB a c)∧Below W.heap.size W w'∧Below (w.heap.size+1) (w.alloc (.cells #[.slice av vs.length cv,.slice ah hard.length ch,.slice ao soft.length co,.slice ad ds.length cd,.slice ag gs.length cg] 27)) w'):=fun W hW=>(HFu0.out W).mono fun e w' h=>⟨h.1,h.2,hW.trans (h.2.mono (by have:=hW.size;simpa using this))⟩
  have HCo:Hid (∀ a c W,Below (w.heap.size+1) (w.alloc (.cells #[.slice av vs.length cv,.slice ah hard.length ch,.slice ao soft.length co,.slice ad ds.length cd,.slice ag gs.length cg] 27)) W→BoolsIn W FB a c→Calls Tryz.prog 62 #[.agg #[.slice av vs.length cv,.slice ah hard.length ch,.slice ao soft.length co,.slice ad ds.length cd,.slice ag gs.length cg],.slice a hard.length c] W fun e w'=>e=.returned (.bool cq)∧Below W.heap.size W w'∧Below (w.heap.size+1) (w.alloc (.cells #[.slice av vs.length cv,.slice ah hard.length ch,.slice ao soft.length co,.slice ad ds.length cd,.slice ag gs.length cg] 27)) w'):=fun a c W hW hB=>(HCo0.out a c W (boxW _ hW) hB).mono fun e w' h=>⟨h.1,h.2,hW.trans (h.2.mono (by have:=hW.size;simpa using this))⟩
  have HWi:Hid (∀ a c W,Below (w.heap.size+1) (w.alloc (.cells #[.slice av vs.length cv,.slice ah hard.length ch,.slice ao soft.length co,.slice ad ds.length cd,.slice ag gs.length cg] 27)) W→BoolsIn W FB a c→Calls Tryz.prog 64 #[.agg #[.slice av vs.length cv,.slice ah hard.length ch,.slice ao soft.length co,.slice ad ds.length cd,.slice ag gs.length cg],.slice a hard.length c] W fun e w'=>(∃ v,e=.returned v∧w'.ownsRow 0 3 1 v R.length (valsN R))∧Below W.heap.size W w'∧Below (w.heap.size+1) (w.alloc (.cells #[.slice av vs.length cv,.slice ah hard.length ch,.slice ao soft.length co,.slice ad ds.length cd,.slice ag gs.length cg] 27)) w'):=fun a c W hW hB=>(HWi0.out a c W (boxW _ hW) hB).mono fun e w' h=>⟨h.1,h.2,hW.trans (h.2.mono (by have:=hW.size;simpa using this))⟩
  have HALL:Hid (∀ W,Below (w.heap.size+1) (w.alloc (.cells #[.slice av vs.length cv,.slice ah hard.length ch,.slice ao soft.length co,.slice ad ds.length cd,.slice ag gs.length cg] 27)) W→W.cell? ⟨w.heap.size,0,none⟩=some (.slice av vs.length cv)∧W.cell? ⟨w.heap.size,1,none⟩=some (.slice ah hard.length ch)∧W.cell? ⟨w.heap.size,2,none⟩=some (.slice ao soft.length co)∧W.cell? ⟨w.heap.size,3,none⟩=some (.slice ad ds.length cd)∧W.cell? ⟨w.heap.size,4,none⟩=some (.slice ag gs.length cg)):=fun W hW=>by
   have k:=box_cell hW
   have k0:=k 0
   have k1:=k 1
   have k2:=k 2
   have k3:=k 3
   have k4:=k 4
   simp at k0 k1 k2 k3 k4
   exact⟨k0,k1,k2,k3,k4⟩
  have HV:=Lib.hid (HV1.out (w.alloc (.cells #[.slice av vs.length cv,.slice ah hard.length ch,.slice ao soft.length co,.slice ad ds.length cd,.slice ag gs.length cg] 27)) ((Below.refl _ _).alloc (Nat.le_refl _) _))
  clear HV1 HFu0 HCo0 HWi0
  go_enter Tryz.func23, Tryz.ntmps23
  go_wp2_with fail
  refine HV.out.mono ?_
  rintro e w1 ⟨rfl,hb1⟩
  simp only[World.size_alloc] at hb1
  have hB1:Below (w.heap.size+1) (w.alloc (.cells #[.slice av vs.length cv,.slice ah hard.length ch,.slice ao soft.length co,.slice ad ds.length cd,.slice ag gs.length cg] 27)) w1:=hb1
  obtain⟨b0,b1,b2,b3,b4⟩:=HALL.out _ hB1
  clear hb1
  go_wp2_with fail
  go_region_held3 (fun w'=>Below (w.heap.size+1) (w.alloc (.cells #[.slice av vs.length cv,.slice ah hard.length ch,.slice ao soft.length co,.slice ad ds.length cd,.slice ag gs.length cg] 27)) w'∧w'.cell? ⟨w.heap.size,0,none⟩=some (.slice av vs.length cv)∧w'.cell? ⟨w.heap.size,1,none⟩=some (.slice ah hard.length ch)∧w'.cell? ⟨w.heap.size,2,none⟩=some (.slice ao soft.length co)∧w'.cell? ⟨w.heap.size,3,none⟩=some (.slice ad ds.length cd)∧w'.cell? ⟨w.heap.size,4,none⟩=some (.slice ag gs.length cg))
   ((refine(fun h=>⟨h,HALL.out _ h⟩) ?_;first | with_reducible assumption | exact bel))
   (first
    | (go_at_call 63;(with_reducible refine(HFu.out _ (by first | with_reducible assumption | exact bel)).mono ?_);rintro e w2 ⟨⟨va,vc,rfl,hL1⟩,hb2,hB2⟩)
    | (go_at_call 62;(with_reducible refine(HCo.out _ _ _ (by first | with_reducible assumption | exact bel) (by first | exact hL1 | exact hL1.keep (fun _ _ h=>h))).mono ?_);rintro e w3 ⟨rfl,hb3,hB3⟩))
  all_goals
   cases cq
   ·go_wp2_with fail
    exact HPo.out _ (by first | rfl | trivial) (boxW _ hB3)
   ·obtain⟨b0,b1,b2,b3,b4⟩:=HALL.out _ hB3
    have HB3:=Lib.hid hB3
    clear hB2 hb2 hb3
    go_wp2_with fail
    go_region_held3 (fun w'=>Below (w.heap.size+1) (w.alloc (.cells #[.slice av vs.length cv,.slice ah hard.length ch,.slice ao soft.length co,.slice ad ds.length cd,.slice ag gs.length cg] 27)) w'∧w'.cell? ⟨w.heap.size,0,none⟩=some (.slice av vs.length cv)∧w'.cell? ⟨w.heap.size,1,none⟩=some (.slice ah hard.length ch)∧w'.cell? ⟨w.heap.size,2,none⟩=some (.slice ao soft.length co)∧w'.cell? ⟨w.heap.size,3,none⟩=some (.slice ad ds.length cd)∧w'.cell? ⟨w.heap.size,4,none⟩=some (.slice ag gs.length cg))
     ((refine(fun h=>⟨h,HALL.out _ h⟩) ?_;first | with_reducible assumption | exact bel))
     (first
      | (go_at_call 63;(with_reducible refine(HFu.out _ (by first | with_reducible assumption | exact bel)).mono ?_);rintro e w4 ⟨⟨va4,vc4,rfl,hL4⟩,hb4,hB4⟩)
      | (go_at_call 64;(with_reducible refine(HWi.out _ _ _ (by first | with_reducible assumption | exact bel) (by first | exact hL4 | exact hL4.keep (fun _ _ h=>h))).mono ?_);rintro e w5 ⟨⟨v5,rfl,ho5⟩,hb5,hB5⟩))
    all_goals
     go_wp2_with fail
     first | exact HPn.out _ _ (by first | rfl | trivial) ho5 (boxW _ hB5) | (go_ret;exact HPn.out _ _ (by first | rfl | trivial) ho5 (boxW _ hB5))
 ·have HV1:=Lib.hid (fun W hW=>errF (HV0.out W hW) hp)
  have HPe:Hid (∀ W,Below w.heap.size w W→CoreRet p w (.returned (.tuple #[.slice none 0 0,.int .i64 1])) W):=fun W h2=>by
   have e1:coreE p=1:=by unfold coreE;rw[if_neg (fun h=>hp (pB_iff.1 h))]
   have e2:coreL p=[]:=by unfold coreL;rw[if_neg (fun h=>hp (pB_iff.1 h))]
   refine⟨⟨_,by rw[e1],?_⟩,h2⟩
   rw[e2]
   exact World.ownsRow_nil _ _ _ _
  generalize CoreRet p w=Po at HPe⊢
  simp only[probVal_eq] at HV1⊢
  clear hE hs hT hd hh HV0 hp
  obtain⟨vs,hard,soft,ds,gs⟩:=p
  obtain⟨av,cv,ah,ch,ao,co,ad,cd,ag,cg⟩:=x
  simp only at HV1⊢
  have HV:=Lib.hid (HV1.out (w.alloc (.cells #[.slice av vs.length cv,.slice ah hard.length ch,.slice ao soft.length co,.slice ad ds.length cd,.slice ag gs.length cg] 27)) ((Below.refl _ _).alloc (Nat.le_refl _) _))
  clear HV1
  go_enter Tryz.func23, Tryz.ntmps23
  go_wp2_with fail
  refine HV.out.mono ?_
  rintro e w1 ⟨⟨n,rfl,hn⟩,hb1⟩
  simp only[World.size_alloc] at hb1
  go_wp2_with fail
  exact HPe.out _ (boxW _ hb1)
end Go.Proofs.YtcplmcjbkpmhdaaGreatDoor
