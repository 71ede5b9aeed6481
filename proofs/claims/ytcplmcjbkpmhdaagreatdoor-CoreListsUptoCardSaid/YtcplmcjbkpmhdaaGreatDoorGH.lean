/- ref25: Cores. -/
import Derived.Test.YtcplmcjbkpmhdaaGreatDoorGE
import Derived.Test.YtcplmcjbkpmhdaaGreatDoorGG
import Derived.Test.YtcplmcjbkpmhdaaGreatDoorGC
set_option linter.unusedSimpArgs false
set_option linter.unusedVariables false
set_option linter.unnecessarySimpa false
namespace Go.Proofs.YtcplmcjbkpmhdaaGreatDoor
open Go.RowKit
attribute [local go_sem ↓] Go.wp_at_zero Go.wp_at_succ
theorem intsN_inj {a b:List Nat} (h:intsN a=intsN b):a=b:=by
 unfold intsN at h
 exact(List.map_inj_right fun a b h=>by omega).1 h
theorem mem_intsN {c:List Nat} {out:List (List Nat)}:intsN c∈out.map intsN↔c∈out:=by
 rw[List.mem_map]
 exact⟨fun ⟨d,hd,e⟩=>intsN_inj e ▸ hd,fun h=>⟨c,h,rfl⟩⟩
theorem pre_at {a b:List (List Nat)} (h:a <+: b) {q:Nat} (hq:q < a.length):∃ hb:q < b.length,b[q]'hb=a[q]'hq:=by
 obtain⟨t,rfl⟩:=h
 exact⟨by rw[List.length_append];omega,List.getElem_append_left hq⟩
set_option maxHeartbeats 16000000 in
set_option maxRecDepth 100000 in
theorem rCores_main (p:ProbD) (x:ProbA) (M:Nat) (w:World) (hE:ProbIn w p x) (hs:ProbSmall p) (hT:ProbOk p→bitsTo p.vars p.vars.length≤10) (hd:p.dists.length≤1048576) (hh:p.hard.length≤7) (hp:ProbOk p) (hM:1≤M∧M≤64) (hcv:conT p (allL p)=true) :
  Calls Tryz.prog 28 #[probVal p x,.int .i64 M] w (CorsRet p M w):=by
 have hc:CorOk p:=⟨hp,hs,hT hp,hd,hh⟩
 have hpm:pB (ProbOk p)=true∧1≤(M:Int)∧(M:Int)≤64:=⟨pB_true hp,by omega,by omega⟩
 have HV1:=Lib.hid (fun W (hW:Below w.heap.size w W)=>errT (r14Valid_any p x W (hE.keep (keeps_of_below hW)) hs) hp)
 have HC0:=Lib.hid (fun W (hW:Below w.heap.size w W)=>rCore_any p x W (hE.below hW) hs hT hd hh)
 unfold CoreRet at HC0
 have e1:coreE p=0:=by unfold coreE;rw[if_pos (pB_true hp),if_pos hcv]
 have e2:coreL p=coreW p (allL p):=by unfold coreL;rw[if_pos (pB_true hp),if_pos hcv]
 have e3:corsE p M=0:=by unfold corsE;rw[if_pos hpm,if_pos hcv]
 have e4:corsL p M=coresS (conT p) p.hard.length M (coreW p (allL p)):=by unfold corsL;rw[if_pos hpm,if_pos hcv,Int.toNat_natCast]
 rw[e1,e2] at HC0
 have HPn:Hid (∀ W v xs,W.ownsRow 0 30 1 v (coresS (conT p) p.hard.length M (coreW p (allL p))).length xs→RowsN W 0 xs ((coresS (conT p) p.hard.length M (coreW p (allL p))).map intsN)→Below w.heap.size w W→CorsRet p M w (.returned (.tuple #[v,.int .i64 0])) W):=fun W v xs h1 h2 h3=>by
  refine⟨⟨v,xs,by rw[e3],?_,?_⟩,h3⟩
  ·rw[e4];exact h1
  ·rw[e4];exact h2
 have hFX:∀ k,((List.replicate p.hard.length true).set k false).length=p.hard.length:=fun k=>by rw[List.length_set,List.length_replicate]
 have HFu0:=Lib.hid (fun W=>full_any p x W (by omega))
 have HCo0:=Lib.hid (fun k (hk:k < p.hard.length) a c W (hW:Below w.heap.size w W) (hB:BoolsIn W ((List.replicate p.hard.length true).set k false) a c)=>contradicts_any p x _ a c W hc (hE.below hW) hB (hFX k))
 have HWi0:=Lib.hid (fun k (hk:k < p.hard.length) a c W (hW:Below w.heap.size w W) (hB:BoolsIn W ((List.replicate p.hard.length true).set k false) a c)=>rwithin_any p x _ a c W hc (hE.below hW) hB (hFX k))
 have HCo1:Hid (∀ k,k < p.hard.length→∀ a c W,Below w.heap.size w W→BoolsIn W ((List.replicate p.hard.length true).set k false) a c→Calls Tryz.prog 62 #[probVal p x,.slice a p.hard.length c] W fun e w'=>e=.returned (.bool (conT p ((List.range p.hard.length).eraseIdx k)))∧Below W.heap.size W w'):=fun k hk a c W hW hB=>by
  have:=HCo0.out k hk a c W hW hB
  rw[hFX,idx_lack hk] at this
  exact this
 have HWi1:Hid (∀ k,k < p.hard.length→∀ a c W,Below w.heap.size w W→BoolsIn W ((List.replicate p.hard.length true).set k false) a c→Calls Tryz.prog 64 #[probVal p x,.slice a p.hard.length c] W fun e w'=>(∃ v,e=.returned v∧w'.ownsRow 0 3 1 v (coreW p ((List.range p.hard.length).eraseIdx k)).length (valsN (coreW p ((List.range p.hard.length).eraseIdx k))))∧Below W.heap.size W w'):=fun k hk a c W hW hB=>by
  have:=HWi0.out k hk a c W hW hB
  rw[hFX,idx_lack hk] at this
  exact this
 have HBo:Hid (∀ k W g cap,W.ownsRow 0 4 1 (.slice (some ⟨g,0,none⟩) p.hard.length cap) p.hard.length (valsB ((List.replicate p.hard.length true).set k false))→BoolsIn W ((List.replicate p.hard.length true).set k false) (some ⟨g,0,none⟩) cap):=fun k W g cap h=>by
  obtain⟨a,c,hv,hB⟩:=bools_of_own (l:=(List.replicate p.hard.length true).set k false) (by rw[hFX];exact h) (by rw[hFX];omega)
  injection hv with h1 _ h3
  subst h1 h3
  exact hB
 have HAw:Hid (∀ k,AscN p.hard.length (coreW p ((List.range p.hard.length).eraseIdx k))):=fun k=>coreW_asc ((asc_range _).sub (List.eraseIdx_sublist ..))
 have HCl:Hid (∀ k,(coreW p ((List.range p.hard.length).eraseIdx k)).length≤1000):=fun k=>by have:=asc_len (HAw.out k);omega
 have HFl:Hid ((coreW p (allL p)).length≤1000):=by have:=asc_len (coreW_asc (p:=p) (asc_range p.hard.length));exact Nat.le_trans this (by omega)
 have HO0:Hid (outC (conT p) p.hard.length M (coreW p (allL p)) 0=[coreW p (allL p)]):=rfl
 have HOk:=Lib.hid (fun i=>outC_ok (T:=conT p) (n:=p.hard.length) (most:=M) (first:=coreW p (allL p)) hM.1 (coreW_asc (asc_range _)) i)
 have HOs:=Lib.hid (fun i h=>outC_succ (T:=conT p) (n:=p.hard.length) (most:=M) (first:=coreW p (allL p)) (i:=i) h)
 have HOe:=Lib.hid (fun i hi h=>outC_end (T:=conT p) (n:=p.hard.length) (most:=M) (first:=coreW p (allL p)) (i:=i) hi h)
 have HFt:=Lib.hid (fun out l k h=>foldC_take (T:=conT p) (n:=p.hard.length) (most:=M) (out:=out) (l:=l) (k:=k) h)
 have HFk:=Lib.hid (fun out l (h:OutOk p.hard.length M out)=>OutOk.fold (T:=conT p) l h)
 have HFp:=Lib.hid (fun out l=>foldC_pre (T:=conT p) (n:=p.hard.length) (most:=M) l out)
 have HFc:=Lib.hid (fun out l k h=>foldC_cut (T:=conT p) (n:=p.hard.length) (most:=M) (out:=out) (l:=l) (k:=k) h)
 have HF0:Hid (∀ out (l:List Nat),foldC (conT p) p.hard.length M out (l.take 0)=out):=fun out l=>rfl
 have HS2:=Lib.hid (fun out k h=>stepC_no (T:=conT p) (n:=p.hard.length) (most:=M) (out:=out) (x:=k) h)
 have HS3:=Lib.hid (fun out k (h:coreW p ((List.range p.hard.length).eraseIdx k)∈out)=>stepC_old (T:=conT p) (n:=p.hard.length) (most:=M) (out:=out) (x:=k) h)
 have HS4:=Lib.hid (fun out k h1 h2 (h3:coreW p ((List.range p.hard.length).eraseIdx k)∉out)=>stepC_new (T:=conT p) (n:=p.hard.length) (most:=M) (out:=out) (x:=k) h1 h2 h3)
 have HWw:Hid (∀ k,withinL (conT p) ((List.range p.hard.length).eraseIdx k).length ((List.range p.hard.length).eraseIdx k)=coreW p ((List.range p.hard.length).eraseIdx k)):=fun k=>rfl
 simp only[HWw.out] at HS4
 generalize CorsRet p M w=Po at HPn⊢
 generalize coresS (conT p) p.hard.length M (coreW p (allL p))=R at HOe HPn
 generalize outC (conT p) p.hard.length M (coreW p (allL p))=OC at HO0 HOk HOs HOe
 generalize foldC (conT p) p.hard.length M=F at HOs HFt HFk HF0 HFp HFc
 generalize stepC (conT p) p.hard.length M=S at HFt HS2 HS3 HS4
 generalize coreW p (allL p)=FI at HO0 HFl HC0
 generalize conT p=T at HCo1 HS2 HS4
 obtain⟨CW,hCW⟩:∃ CW:Nat→List Nat,∀ k,coreW p ((List.range p.hard.length).eraseIdx k)=CW k:=⟨_,fun _=>rfl⟩
 simp only[hCW] at HWi1 HS3 HS4 HCl
 generalize hEW:(fun k=>T ((List.range p.hard.length).eraseIdx k))=TE
 replace HCo1:Hid (∀ k,k < p.hard.length→∀ a c W,Below w.heap.size w W→BoolsIn W ((List.replicate p.hard.length true).set k false) a c→Calls Tryz.prog 62 #[probVal p x,.slice a p.hard.length c] W fun e w'=>e=.returned (.bool (TE k))∧Below W.heap.size W w'):=by rw[← hEW];exact HCo1
 replace HS2:Hid (∀ out k,TE k=false→S out k=out):=by rw[← hEW];exact fun out k h=>HS2.out out k h
 replace HS4:Hid (∀ out k,out.length < M→TE k=true→CW k∉out→S out k=out++[CW k]):=by rw[← hEW];exact fun out k h1 h2 h3=>HS4.out out k h1 h2 h3
 clear hCW hEW hFX HCo0 HWi0 HWw HAw hE hs hT hd hp hcv e1 e2 e3 e4 hpm hc
 obtain⟨hm1,hm2⟩:=hM
 simp only[probVal_eq] at HV1 HC0 HFu0 HCo1 HWi1⊢
 obtain⟨vs,hard,soft,ds,gs⟩:=p
 obtain⟨av,cv,ah,ch,ao,co,ad,cd,ag,cg⟩:=x
 simp only at HV1 HC0 HFu0 HCo1 HWi1 HBo HOk HFk hh⊢
 have HV:=Lib.hid (HV1.out (w.alloc (.cells #[.slice av vs.length cv,.slice ah hard.length ch,.slice ao soft.length co,.slice ad ds.length cd,.slice ag gs.length cg] 27)) ((Below.refl _ _).alloc (Nat.le_refl _) _))
 have d1:decide ((M:Int) < 1)=false:=decide_eq_false (by omega)
 have d2:decide (64 < (M:Int))=false:=decide_eq_false (by omega)
 clear HV1
 go_enter Tryz.func28, Tryz.ntmps28
 go_wp2_with fail
 refine HV.out.mono ?_
 rintro e w1 ⟨rfl,hb1⟩
 simp only[World.size_alloc] at hb1
 have HB1:=Lib.hid hb1
 have hz1:=hb1.size
 simp only[World.size_alloc] at hz1
 clear hb1
 ((try clear b0 b1 b2 b3 b4);have b0:=box_cell HB1.out 0;have b1:=box_cell HB1.out 1;have b2:=box_cell HB1.out 2;have b3:=box_cell HB1.out 3;have b4:=box_cell HB1.out 4;(try simp at b0 b1 b2 b3 b4))
 go_wp2_with fail
 refine(HC0.out w1 (boxW _ HB1.out)).mono ?_
 rintro e w2 ⟨⟨v2,rfl,ho2⟩,hb2⟩
 have HB2:=Lib.hid (HB1.out.trans (hb2.mono (by omega)))
 have hz2:=hb2.size
 obtain⟨va,vc,rfl,-⟩:=valsN_ints ho2 (by have:=HFl.out;omega)
 have HV2:=Lib.hid ho2
 clear hb2 ho2 b0 b1 b2 b3 b4
 go_wp2_with fail
 have HOa:Hid ((w2.alloc (.cells #[.slice va FI.length vc] 30)).ownsRow w2.heap.size 30 1 (.slice (some ⟨w2.heap.size,0,none⟩) 1 1) 1 [.slice va FI.length vc]):=out_one rfl
 have HBa:Hid (Below (w.heap.size+1) (w.alloc (.cells #[.slice av vs.length cv,.slice ah hard.length ch,.slice ao soft.length co,.slice ad ds.length cd,.slice ag gs.length cg] 27)) (w2.alloc (.cells #[.slice va FI.length vc] 30))):=HB2.out.alloc (by omega) _
 have HRa:Hid (RowsN (w2.alloc (.cells #[.slice va FI.length vc] 30)) 0 [.slice va FI.length vc] ([FI].map intsN)):=(rowsN_nil _ _).snoc (l:=intsN FI) (by rw[intsN_len];exact ownsRow_below HV2.out ((Below.refl _ _).alloc (Nat.le_refl _) _))
 have HOa2:Hid ((w2.alloc (.cells #[.slice va FI.length vc] 30)).ownsRow (w.heap.size+1) 30 1 (.slice (some ⟨w2.heap.size,0,none⟩) 1 1) 1 [.slice va FI.length vc]):=own_base HOa.out (by omega)
 clear HOa
 generalize w2.alloc (.cells #[.slice va FI.length vc] 30)=wA at HOa2 HBa HRa⊢
 go_loopw [8,9,10,11,12] (fun v i _ _ _ wr=>∃ (q:Nat) (xs:List Value),i=.int .i64 q∧q≤M∧Hid (wr.ownsRow (w.heap.size+1) 30 1 v (OC q).length xs)∧Hid (RowsN wr 0 xs ((OC q).map intsN))∧Hid (Below (w.heap.size+1) (w.alloc (.cells #[.slice av vs.length cv,.slice ah hard.length ch,.slice ao soft.length co,.slice ad ds.length cd,.slice ag gs.length cg] 27)) wr)) (fun _ i _ _ _ _=>M - (intOf i).toNat)
 case atStart=>exact⟨0,[.slice va FI.length vc],rfl,Nat.zero_le _,by rw[HO0.out];exact HOa2,by rw[HO0.out];exact HRa,HBa⟩
 case round =>
  obtain⟨q,xs,rfl,hq,HO,HR,HB⟩:=hrel
  have hg:=HOk.out q
  have hgl:=hg.1
  have hqw:IntKind.i64.wrap ((q:Int)+1)=(q:Int)+1:=by rw[IntKind.wrap_i64];omega
  by_cases h1:q < (OC q).length
  ·have hco:=hg.2 _ (List.getElem_mem h1)
   have hcl:((OC q)[q]'h1).length≤hard.length:=asc_len hco
   obtain⟨oa0,oc0,rfl,-⟩:=slice_of_own HO.out (by omega)
   have HC:=Lib.hid hco.2
   have HN:=Lib.hid (HOs.out q h1)
   have HPq:=Lib.hid (fun l=>pre_at (HFp.out (OC q) l) h1)
   have HFq:=Lib.hid (fun l=>HFk.out (OC q) l hg)
   have HFq0:=Lib.hid (HF0.out (OC q))
   have HFtq:=Lib.hid (fun l k h=>HFt.out (OC q) l k h)
   have HFcq:=Lib.hid (fun l k h=>HFc.out (OC q) l k h)
   generalize ((OC q)[q]'h1)=cr at HC HN HPq hcl
   have hq0:(0:Int)≤(q:Int):=by omega
   have hq1:(q:Int) < ((OC q).length:Int):=by omega
   obtain⟨FC,hFC⟩:∃ FC:Nat→List (List Nat),∀ k,F (OC q) (cr.take k)=FC k:=⟨_,fun _=>rfl⟩
   have HFC0:Hid (FC 0=OC q):=by show _=_;rw[← hFC];exact HFq0.out cr
   have HFCn:Hid (OC (q+1)=FC cr.length):=by show _=_;rw[← hFC,List.take_length];exact HN.out
   have HFCc:Hid (∀ k,M≤(FC k).length→OC (q+1)=FC k):=fun k h=>by rw[← hFC] at h⊢;rw[HN.out];exact HFcq.out cr k h
   have HFCs:Hid (∀ k (h:k < cr.length),FC (k+1)=S (FC k) (cr[k]'h)):=fun k h=>by rw[← hFC,← hFC];exact HFtq.out cr k h
   have HFCk:Hid (∀ k,(FC k).length≤M):=fun k=>by rw[← hFC];exact(HFq.out _).1
   have HFCq:Hid (∀ k,∃ hb:q < (FC k).length,(FC k)[q]'hb=cr):=fun k=>by
    have:=HPq.out (cr.take k)
    simp only[hFC] at this
    exact this
   have HFCa:Hid (∀ k i (h:i < (FC k).length),((FC k)[i]'h).length≤1000):=fun k i h=>by
    have h8:=(HFq.out (cr.take k)).2
    rw[hFC] at h8
    have:=asc_len (h8 _ (List.getElem_mem h))
    omega
   clear hco hg hFC HN HFq HFq0 HFtq HFcq HPq
   go_wp2_with fail
   generalize wr=wt at *
   go_loopw [10,8,11,12] (fun j vo _ _ wq=>∃ (k:Nat) (ys:List Value),j=.int .i64 k∧k≤cr.length∧Hid (wq.ownsRow (w.heap.size+1) 30 1 vo (FC k).length ys)∧Hid (RowsN wq 0 ys ((FC k).map intsN))∧Hid (Below (w.heap.size+1) (w.alloc (.cells #[.slice av vs.length cv,.slice ah hard.length ch,.slice ao soft.length co,.slice ad ds.length cd,.slice ag gs.length cg] 27)) wq)) (fun j _ _ _ _=>cr.length - (intOf j).toNat)
   case atStart=>exact⟨0,xs,rfl,Nat.zero_le _,by rw[HFC0.out];exact HO,by rw[HFC0.out];exact HR,HB⟩
   case round =>
    obtain⟨k,ys,rfl,hk,HO2,HR2,HB2⟩:=hrel
    have hfk:=HFCk.out k
    have hkw:IntKind.i64.wrap ((k:Int)+1)=(k:Int)+1:=by rw[IntKind.wrap_i64];omega
    have hzr:=HB2.out.size
    simp only[World.size_alloc] at hzr
    obtain⟨hqf,hqe⟩:=HFCq.out k
    obtain⟨b,off,cap,ua,uc,rfl,hcell,hown⟩:=HR2.out.at HO2.out (by omega) hqf (by rw[hqe];omega)
    rw[hqe] at hcell hown
    have HU2:=Lib.hid hown
    have hqf1:(q:Int) < ((FC k).length:Int):=by omega
    clear hqe hown
    by_cases hlt:k < cr.length
    ·by_cases hfull:(FC k).length < M
     ·obtain⟨_,_,hva,hIu⟩:=valsN_ints HU2.out (by omega)
      injection hva with y1 _ y3
      subst y1 y3
      obtain⟨ib,io,hia⟩:=hIu.addr.resolve_left (by rw[intsN_len];omega)
      subst hia
      have hlt9:k < (intsN cr).length:=by rw[intsN_len];exact hlt
      have i0:=intsIn_get hIu rfl hlt9
      rw[intsN_get hlt hlt9] at i0
      have hx:=HC.out _ (List.getElem_mem hlt)
      have HN:=Lib.hid (HFCs.out k hlt)
      generalize (cr[k]'hlt)=x1 at i0 hx HN
      have hx0:(0:Int)≤(x1:Int):=by omega
      have hx1:(x1:Int) < (hard.length:Int):=by omega
      have hk1:(k:Int) < (cr.length:Int):=by omega
      have hf1:((FC k).length:Int) < (M:Int):=by omega
      ((try clear b0 b1 b2 b3 b4);have b0:=box_cell HB2.out 0;have b1:=box_cell HB2.out 1;have b2:=box_cell HB2.out 2;have b3:=box_cell HB2.out 3;have b4:=box_cell HB2.out 4;(try simp at b0 b1 b2 b3 b4))
      clear hIu
      go_wp2_with fail
      refine(HFu0.out wr).mono ?_
      rintro e w3 ⟨⟨v3,rfl,ho3⟩,hb3⟩
      have HB3:=Lib.hid (HB2.out.trans (hb3.mono hzr))
      have HO3:=Lib.hid (ownsRow_below HO2.out hb3)
      have HR3:=Lib.hid (rowsN_below HR2.out hb3)
      have hcell3:=keeps_of_below hb3 _ _ hcell
      have i03:=keeps_of_below hb3 _ _ i0
      have hz3:=hb3.size
      obtain⟨g,cap3,rfl⟩:=bools_any (s:=List.replicate hard.length true) (by rw[List.length_replicate];exact ho3) (by rw[List.length_replicate];omega) (by rw[List.length_replicate];omega)
      rw[List.length_replicate] at ho3⊢
      have hgl:=(ho3.lt g rfl).1
      have hxl:x1 < (valsB (List.replicate hard.length true)).length:=by unfold valsB;rw[List.length_map,List.length_replicate];omega
      have hczx:=ho3.cellAt x1 (by omega)
      rw[List.getElem?_eq_getElem hxl] at hczx
      have hfzx:=ho3.frozenAt x1
      have HSt:Hid ((w3.setCell ⟨g,x1,none⟩ (.bool false)).ownsRow 0 4 1 (.slice (some ⟨g,0,none⟩) hard.length cap3) hard.length (valsB ((List.replicate hard.length true).set x1 false))):=by
       have h:=(ho3.stored x1 (.bool false)).1
       rw[valsB_set] at h
       exact own_base h (Nat.zero_le _)
      have hbs:Below wr.heap.size wr (w3.setCell ⟨g,x1,none⟩ (.bool false)):=hb3.setCell (p:=⟨g,x1,none⟩) hgl _
      have HB4:Hid (Below (w.heap.size+1) (w.alloc (.cells #[.slice av vs.length cv,.slice ah hard.length ch,.slice ao soft.length co,.slice ad ds.length cd,.slice ag gs.length cg] 27)) (w3.setCell ⟨g,x1,none⟩ (.bool false))):=HB2.out.trans (hbs.mono hzr)
      have HO4:=Lib.hid (ownsRow_below HO2.out hbs)
      have HR4:=Lib.hid (rowsN_below HR2.out hbs)
      have hB9:=HBo.out x1 _ g cap3 HSt.out
      have HC4:=Lib.hid (HCo1.out x1 (by omega) (some ⟨g,0,none⟩) cap3 _ (boxW _ HB4.out) hB9)
      have HBl:=Lib.hid hB9
      clear ho3 hb3 hbs hB9 HO3 HR3 b0 b1 b2 b3 b4
      ((try clear b0 b1 b2 b3 b4);have b0:=box_cell HB4.out 0;have b1:=box_cell HB4.out 1;have b2:=box_cell HB4.out 2;have b3:=box_cell HB4.out 3;have b4:=box_cell HB4.out 4;(try simp at b0 b1 b2 b3 b4))
      go_wp2_with fail
      generalize w3.setCell ⟨g,x1,none⟩ (.bool false)=w4 at HSt HB4 HO4 HR4 HC4 HBl b0 b1 b2 b3 b4⊢
      refine HC4.out.mono ?_
      rintro e w5 ⟨rfl,hb5⟩
      have HB5:=Lib.hid (HB4.out.trans (hb5.mono (by have:=HB4.out.size;simpa using this)))
      have HO5:=Lib.hid (ownsRow_below HO4.out hb5)
      have HR5:=Lib.hid (rowsN_below HR4.out hb5)
      have HBl5:=Lib.hid (HBl.out.keep (keeps_of_below hb5))
      clear hb5 HC4 HO4 HR4 HBl b0 b1 b2 b3 b4
      cases ht:TE x1
      ·have HN1:Hid (FC (k+1)=FC k):=HN.out.trans (HS2.out _ _ ht)
       clear ht
       go_wp2_with fail
       go_roundw
       case rel=>exact⟨k+1,ys,by go_num,by omega,by rw[HN1.out];exact HO5,by rw[HN1.out];exact HR5,HB5⟩
       case measure=>(simp[intOf];try omega)
      ·have HS4k:=Lib.hid (fun h=>HS4.out (FC k) x1 hfull ht h)
       have HW5:=Lib.hid (HWi1.out x1 (by omega) (some ⟨g,0,none⟩) cap3 w5 (boxW _ HB5.out) HBl5.out)
       clear ht
       ((try clear b0 b1 b2 b3 b4);have b0:=box_cell HB5.out 0;have b1:=box_cell HB5.out 1;have b2:=box_cell HB5.out 2;have b3:=box_cell HB5.out 3;have b4:=box_cell HB5.out 4;(try simp at b0 b1 b2 b3 b4))
       go_wp2_with fail
       refine HW5.out.mono ?_
       rintro e w6 ⟨⟨v6,rfl,ho6⟩,hb6⟩
       have HB6:=Lib.hid (HB5.out.trans (hb6.mono (by have:=HB5.out.size;simpa using this)))
       have HO6:=Lib.hid (ownsRow_below HO5.out hb6)
       have HR6:=Lib.hid (rowsN_below HR5.out hb6)
       have HN6:=Lib.hid ho6
       obtain⟨na,nc,rfl,hnI⟩:=valsN_ints ho6 (by have:=HCl.out x1;omega)
       obtain⟨ra,rc,hv7,hRw⟩:=HR6.out.rows (by rw[List.length_map];exact own_base HO6.out (Nat.zero_le _)) (by rw[List.length_map];omega) (fun i hi=>by
        rw[List.getElem_map,intsN_len]
        have:=HFCa.out k i (by rwa [List.length_map] at hi)
        omega)
       rw[List.length_map] at hv7
       injection hv7 with z1 _ z3
       subst z1 z3
       have HHs:=Lib.hid (has_any ((FC k).map intsN) (intsN (CW x1)) _ na _ nc w6 hRw hnI)
       rw[List.length_map,intsN_len] at HHs
       have hz6:=HB6.out.size
       simp only[World.size_alloc] at hz6
       clear hb6 ho6 HW5 HO5 HR5 HBl5 hRw hnI b0 b1 b2 b3 b4
       by_cases hmem:CW x1∈FC k
       ·have HN1:Hid (FC (k+1)=FC k):=HN.out.trans (HS3.out _ _ hmem)
        rw[decide_eq_true (mem_intsN.2 hmem)] at HHs
        clear hmem HS4k
        go_wp2_with fail
        refine HHs.out.mono ?_
        rintro e w8 ⟨rfl,hb8⟩
        have HB8:=Lib.hid (HB6.out.trans (hb8.mono (by omega)))
        have HO8:=Lib.hid (ownsRow_below HO6.out hb8)
        have HR8:=Lib.hid (rowsN_below HR6.out hb8)
        clear hb8 HHs
        go_wp2_with fail
        go_roundw
        case rel=>exact⟨k+1,ys,by go_num,by omega,by rw[HN1.out];exact HO8,by rw[HN1.out];exact HR8,HB8⟩
        case measure=>(simp[intOf];try omega)
       ·have HN1:Hid (FC (k+1)=FC k++[CW x1]):=HN.out.trans (HS4k.out hmem)
        rw[decide_eq_false (fun h=>hmem (mem_intsN.1 h))] at HHs
        clear hmem HS4k
        go_wp2_with fail
        refine HHs.out.mono ?_
        rintro e w8 ⟨rfl,hb8⟩
        have HB8:=Lib.hid (HB6.out.trans (hb8.mono (by omega)))
        have HO8:=Lib.hid (ownsRow_below HO6.out hb8)
        have HR8:=Lib.hid (rowsN_below HR6.out hb8)
        have HN8:=Lib.hid (ownsRow_below HN6.out hb8)
        have hz8:=hb8.size
        clear hb8 HHs HO6 HR6 HN6
        go_wp2_with (at_builtin;go_must (refine own_appx elemRwC _ rfl (.tmp 76) (.tmp 78) rfl (w.heap.size+1) _ (FC k).length ys rfl HO8.out [.slice na (CW x1).length nc] 1 _ _ rfl (by simp[Value.oneCell']) rfl rfl (by omega) (by omega) (by omega) ?_))
        intro g9 gcap w9 hown9 hg9 hat
        have HB9:=Lib.hid (Below.grown (B:=w.heap.size+1) (HB8.out.alloc (by omega) _) hg9 (by simp;omega) (fun q hq=>(HO8.out.lt q hq).1))
        have HR9:=Lib.hid (rowsN_app HR8.out HO8.out HN8.out hg9)
        have hne:(FC (k+1)).length=(FC k).length+1:=by rw[HN1.out,List.length_append,List.length_singleton]
        have HO9:=Lib.hid hown9
        clear hown9 hg9 hat
        go_wp2_with fail
        go_roundw
        case rel=>exact⟨k+1,_,by go_num,by omega,by rw[hne];exact HO9,by rw[HN1.out];exact HR9,HB9⟩
        case measure=>(simp[intOf];try omega)
     ·have HNe:=Lib.hid (HFCc.out k (by omega)).symm
      rw[HNe.out] at HO2 HR2 hqf1 hfull hfk
      have hk1:(k:Int) < (cr.length:Int):=by omega
      have hf1:¬ (((OC (q+1)).length:Int) < (M:Int)):=by omega
      have hOl:(FC k).length=(OC (q+1)).length:=by rw[HNe.out]
      rw[hOl]
      clear hOl hfull hfk hqf
      go_wp2_with fail
      go_roundw
      case rel=>exact⟨q+1,ys,by go_num,by omega,HO2,HR2,HB2⟩
      case measure=>(simp[intOf];try omega)
    ·obtain rfl:k=cr.length:=by omega
     have HNe:=Lib.hid HFCn.out.symm
     have hOl:(FC cr.length).length=(OC (q+1)).length:=by rw[HNe.out]
     rw[HNe.out] at HO2 HR2 hqf1 hfk
     rw[hOl]
     clear hOl hfk hqf
     go_wp2_with fail
     go_roundw
     case rel=>exact⟨q+1,ys,by go_num,by omega,HO2,HR2,HB2⟩
     case measure=>(simp[intOf];try omega)
  ·have HE:=Lib.hid (HOe.out q hq (Or.inl (by omega)))
   rw[HE.out] at HO HR hgl h1
   obtain⟨oa,oc,rfl,-⟩:=slice_of_own HO.out (by omega)
   have hq1:¬ ((q:Int) < (R.length:Int)):=by omega
   have HPf:=Lib.hid (HPn.out wr _ xs (own_base HO.out (Nat.zero_le _)) HR.out (boxW _ HB.out))
   clear h1
   go_wp2_with fail
   first | exact HPf.out | (go_ret;exact HPf.out)
set_option maxHeartbeats 8000000 in
set_option maxRecDepth 100000 in
theorem rCores_any (p:ProbD) (x:ProbA) (m:Int) (w:World) (hE:ProbIn w p x) (hs:ProbSmall p) (hT:ProbOk p→bitsTo p.vars p.vars.length≤10) (hd:p.dists.length≤1048576) (hh:p.hard.length≤7) :
  Calls Tryz.prog 28 #[probVal p x,.int .i64 m] w (CorsRet p m w):=by
 have HV0:=Lib.hid (fun W (hW:Below w.heap.size w W)=>r14Valid_any p x W (hE.keep (keeps_of_below hW)) hs)
 have HC0:=Lib.hid (fun W (hW:Below w.heap.size w W)=>rCore_any p x W (hE.below hW) hs hT hd hh)
 unfold CoreRet at HC0
 by_cases hp:ProbOk p
 ·have HV1:=Lib.hid (fun W hW=>errT (HV0.out W hW) hp)
  by_cases hm:1≤m∧m≤64
  ·have hpm:pB (ProbOk p)=true∧1≤m∧m≤64:=⟨pB_true hp,hm⟩
   cases hcv:conT p (allL p)
   ·have e1:coreE p=13:=by unfold coreE;rw[if_pos (pB_true hp),if_neg (by rw[hcv];simp)]
    have e2:coreL p=[]:=by unfold coreL;rw[if_pos (pB_true hp),if_neg (by rw[hcv];simp)]
    have HPo:=Lib.hid (fun W h=>corsRet_none (p:=p) (m:=m) (w:=w) (W:=W) (n:=13) (by unfold corsE;rw[if_pos hpm,if_neg (by rw[hcv];simp)]) (by unfold corsL;rw[if_pos hpm,if_neg (by rw[hcv];simp)]) h)
    rw[e1,e2] at HC0
    generalize CorsRet p m w=Po at HPo⊢
    obtain⟨hm1,hm2⟩:=hm
    have d1:decide (m < 1)=false:=decide_eq_false (by omega)
    have d2:decide (64 < m)=false:=decide_eq_false (by omega)
    simp only[probVal_eq] at HV1 HC0⊢
    clear hE hs hT hd hh HV0 hp hcv e1 e2 hpm
    obtain⟨vs,hard,soft,ds,gs⟩:=p
    obtain⟨av,cv,ah,ch,ao,co,ad,cd,ag,cg⟩:=x
    simp only at HV1 HC0⊢
    have HV:=Lib.hid (HV1.out (w.alloc (.cells #[.slice av vs.length cv,.slice ah hard.length ch,.slice ao soft.length co,.slice ad ds.length cd,.slice ag gs.length cg] 27)) ((Below.refl _ _).alloc (Nat.le_refl _) _))
    clear HV1
    go_enter Tryz.func28, Tryz.ntmps28
    go_wp2_with fail
    refine HV.out.mono ?_
    rintro e w1 ⟨rfl,hb1⟩
    simp only[World.size_alloc] at hb1
    have HB1:=Lib.hid hb1
    have hz1:=hb1.size
    simp only[World.size_alloc] at hz1
    clear hb1
    ((try clear b0 b1 b2 b3 b4);have b0:=box_cell HB1.out 0;have b1:=box_cell HB1.out 1;have b2:=box_cell HB1.out 2;have b3:=box_cell HB1.out 3;have b4:=box_cell HB1.out 4;(try simp at b0 b1 b2 b3 b4))
    go_wp2_with fail
    refine(HC0.out w1 (boxW _ HB1.out)).mono ?_
    rintro e w2 ⟨⟨v,rfl,ho2⟩,hb2⟩
    have HB2:=Lib.hid ((boxW _ HB1.out).trans (hb2.mono (boxW _ HB1.out).size))
    clear hb2
    go_wp2_with fail
    first | exact HPo.out _ HB2.out | (go_ret;exact HPo.out _ HB2.out)
   ·obtain⟨M,rfl⟩:∃ M:Nat,m=M:=⟨m.toNat,by omega⟩
    exact rCores_main p x M w hE hs hT hd hh hp (by omega) hcv
  ·have hpm:¬ (pB (ProbOk p)=true∧1≤m∧m≤64):=fun h=>hm h.2
   have HPo:=Lib.hid (fun W h=>corsRet_none (p:=p) (m:=m) (w:=w) (W:=W) (n:=1) (by unfold corsE;rw[if_neg hpm]) (by unfold corsL;rw[if_neg hpm]) h)
   generalize CorsRet p m w=Po at HPo⊢
   simp only[probVal_eq] at HV1⊢
   clear hE hs hT hd hh HV0 HC0 hp hpm
   obtain⟨vs,hard,soft,ds,gs⟩:=p
   obtain⟨av,cv,ah,ch,ao,co,ad,cd,ag,cg⟩:=x
   simp only at HV1⊢
   have HV:=Lib.hid (HV1.out (w.alloc (.cells #[.slice av vs.length cv,.slice ah hard.length ch,.slice ao soft.length co,.slice ad ds.length cd,.slice ag gs.length cg] 27)) ((Below.refl _ _).alloc (Nat.le_refl _) _))
   clear HV1
   go_enter Tryz.func28, Tryz.ntmps28
   go_wp2_with fail
   refine HV.out.mono ?_
   rintro e w1 ⟨rfl,hb1⟩
   simp only[World.size_alloc] at hb1
   have HB1:=Lib.hid (boxW _ hb1)
   clear hb1
   by_cases h1:m < 1
   ·go_wp2_with fail
    first | exact HPo.out _ HB1.out | (go_ret;exact HPo.out _ HB1.out)
   ·have h2:64 < m:=by omega
    clear hm
    go_wp2_with fail
    first | exact HPo.out _ HB1.out | (go_ret;exact HPo.out _ HB1.out)
 ·have HV1:=Lib.hid (fun W hW=>errF (HV0.out W hW) hp)
  have hpm:¬ (pB (ProbOk p)=true∧1≤m∧m≤64):=fun h=>hp (pB_iff.1 h.1)
  have HPo:=Lib.hid (fun W h=>corsRet_none (p:=p) (m:=m) (w:=w) (W:=W) (n:=1) (by unfold corsE;rw[if_neg hpm]) (by unfold corsL;rw[if_neg hpm]) h)
  generalize CorsRet p m w=Po at HPo⊢
  simp only[probVal_eq] at HV1⊢
  clear hE hs hT hd hh HV0 HC0 hp hpm
  obtain⟨vs,hard,soft,ds,gs⟩:=p
  obtain⟨av,cv,ah,ch,ao,co,ad,cd,ag,cg⟩:=x
  simp only at HV1⊢
  have HV:=Lib.hid (HV1.out (w.alloc (.cells #[.slice av vs.length cv,.slice ah hard.length ch,.slice ao soft.length co,.slice ad ds.length cd,.slice ag gs.length cg] 27)) ((Below.refl _ _).alloc (Nat.le_refl _) _))
  clear HV1
  go_enter Tryz.func28, Tryz.ntmps28
  go_wp2_with fail
  refine HV.out.mono ?_
  rintro e w1 ⟨⟨n,rfl,hn⟩,hb1⟩
  simp only[World.size_alloc] at hb1
  have HB1:=Lib.hid (boxW _ hb1)
  clear hb1
  go_wp2_with fail
  first | exact HPo.out _ HB1.out | (go_ret;exact HPo.out _ HB1.out)
end Go.Proofs.YtcplmcjbkpmhdaaGreatDoor
