/- elab: dists. -/
import Derived.Test.YtcplmcjbkpmhdaaGreatDoorKK
set_option linter.unusedSimpArgs false
set_option linter.unusedVariables false
set_option linter.unnecessarySimpa false
namespace Go.Proofs.YtcplmcjbkpmhdaaGreatDoor
open Go.RowKit
theorem DistsIn.take {w:World} {l:List DistD} {a:Option Addr} {cap:Nat} (h:DistsIn w l a cap) (k:Nat):DistsIn w (l.take k) a cap:=by
 have hl:(l.take k).length≤l.length:=by simp;omega
 refine⟨by have:=h.1;omega,by have:=h.2.1;omega,?_⟩
 rcases h.2.2 with h0 | ⟨b,off,ha,hi⟩
 ·exact Or.inl (by omega)
 ·refine Or.inr ⟨b,off,ha,fun i hk=>?_⟩
  obtain⟨v,hv,hp⟩:=hi i (by omega)
  exact⟨v,by rw[List.getElem?_take];rw[if_pos (by simp at hk;omega)];exact hv,hp⟩
theorem dup_any {x:List DistD} {k:Nat} (hk:k≤x.length) (u:Int):((x.take k).any fun v=>v.var == u)=false↔∀ j (hj:j < x.length),j < k→(x[j]'hj).var≠u:=by
 rw[List.any_eq_false]
 constructor
 ·intro h j hj hjk he
  exact h _ (List.mem_take_iff_getElem.2 ⟨j,by omega,rfl⟩) (by simpa using he)
 ·intro h v hv he
  obtain⟨j,hj,rfl⟩:=List.mem_take_iff_getElem.1 hv
  exact h j (by omega) (by omega) (by simpa using he)
set_option maxRecDepth 100000 in
set_option maxHeartbeats 8000000 in
theorem dists_any (p:ProbD) (x:ProbA) (w:World) (hE:ProbIn w p x) :
  Calls Tryz.prog 112 #[probVal p x] w fun e w'=>ErrIff (DistsOk p.vars p.dists) e∧Below w.heap.size w w':=by
 have HR:=Lib.hid (fun (i:Int) W (hW:Below w.heap.size w W)=>random_any p x i W (hE.keep (keeps_of_below hW)))
 simp only[probVal_eq] at HR⊢
 have hlen:=hE.dists.2.1
 have hcap:=hE.dists.1
 have HA:=Lib.hid hE.dists.addr
 have HD:=Lib.hid hE.dists
 clear hE
 obtain⟨vs,hard,soft,ds,gs⟩:=p
 obtain⟨av,cv,ah,ch,ao,co,ad,cd,ag,cg⟩:=x
 simp only at HR HA HD hlen hcap⊢
 go_enter Tryz.func112, Tryz.ntmps112
 go_wp2_with fail
 go_loopw [8,3,4] (fun i _ _ wr=>∃ k:Nat,i=.int .i64 k∧k≤ds.length∧(∀ j (hj:j < ds.length),j < k→DistOk vs ds j (ds[j]'hj))∧Below (w.heap.size+1) (w.alloc (.cells #[.slice av vs.length cv,.slice ah hard.length ch,.slice ao soft.length co,.slice ad ds.length cd,.slice ag gs.length cg] 27)) wr) (fun i _ _ _=>ds.length - (intOf i).toNat)
 case atStart=>exact⟨0,rfl,Nat.zero_le _,fun _ _ h=>absurd h (by omega),Below.refl _ _⟩
 case round =>
  obtain⟨k,rfl,hk,hall,hBr⟩:=hrel
  have HAl:=Lib.hid hall
  have HBr:=Lib.hid hBr
  have HBw:=Lib.hid (boxW _ hBr)
  have hzr:=hBr.size
  simp only[World.size_alloc] at hzr
  have hzl0:w.heap.size < wr.heap.size:=by omega
  have cb:∀ j (hj:j < 5),wr.cell? ⟨w.heap.size,j,none⟩=(#[Value.slice av vs.length cv,.slice ah hard.length ch,.slice ao soft.length co,.slice ad ds.length cd,.slice ag gs.length cg]:Array Value)[j]?:=fun j _=>(hBr.cell (p:=⟨w.heap.size,j,none⟩) (by simp)).trans (by simp)
  have b0:wr.cell? ⟨w.heap.size,0,none⟩=_:=cb 0 (by decide)
  have b1:wr.cell? ⟨w.heap.size,1,none⟩=_:=cb 1 (by decide)
  have b2:wr.cell? ⟨w.heap.size,2,none⟩=_:=cb 2 (by decide)
  have b3:wr.cell? ⟨w.heap.size,3,none⟩=_:=cb 3 (by decide)
  have b4:wr.cell? ⟨w.heap.size,4,none⟩=_:=cb 4 (by decide)
  simp at b0 b1 b2 b3 b4
  clear hall cb hBr
  by_cases hlt:k < ds.length
  ·obtain⟨b,off,ha⟩:=HA.out.resolve_left (by omega)
   subst ha
   obtain⟨aw,cw,g0,g1,hW⟩:=HD.out.get rfl hlt
   have HNx:Hid (DistOk vs ds k (ds[k]'hlt)→∀ j (hj:j < ds.length),j < k+1→DistOk vs ds j (ds[j]'hj)):=fun hv j hj hjk=>by
    by_cases e:j=k
    ·subst e;exact hv
    ·exact HAl.out j hj (by omega)
   have HNo:Hid (¬ DistOk vs ds k (ds[k]'hlt)→¬ DistsOk vs ds):=fun h h'=>h (h' k hlt)
   generalize (ds[k]'hlt)=d at g0 g1 hW HNx HNo
   obtain⟨var,ws⟩:=d
   simp only at g0 g1 hW
   have hlenW:=hW.2.1
   have kk:=keeps_of_below HBw.out
   have c0:=kk _ _ g0
   have c1:=kk _ _ g1
   have hkI:(k:Int)≤(cd:Int):=by omega
   have HR':=Lib.hid (fun W (hW:Below wr.heap.size wr W) hz=>fr (W0:=wr) (B:=wr.heap.size) (HR.out var W (HBw.out.trans (hW.mono HBw.out.size))) hW hz)
   have HWt:=Lib.hid (fun W (hWW:Below wr.heap.size wr W) hz=>fr (W0:=wr) (B:=wr.heap.size) (weights_any ws aw cw W (hW.keep (keeps_of_below (HBw.out.trans (hWW.mono HBw.out.size))))) hWW hz)
   have HCF:Hid (∀ (W:World),Below wr.heap.size wr W→wr.heap.size≤W.heap.size→W.cell? ⟨wr.heap.size,0,none⟩=some (.int .i64 var)→Calls Tryz.prog 164 #[.slice (some ⟨b,off,none⟩) k cd,.func (.func 165) #[] #[.pointer (some ⟨wr.heap.size,0,none⟩)]] W fun e w'=>e=.returned (.bool ((ds.take k).any fun v=>v.var == var))∧(∀ b o,b < W.heap.size→w'.cell? ⟨b,o,none⟩=W.cell? ⟨b,o,none⟩)∧(∀ b o,b < W.heap.size→w'.frozen? ⟨b,o,none⟩=W.frozen? ⟨b,o,none⟩)∧W.heap.size≤w'.heap.size∧Below wr.heap.size wr w'):=fun W hW hz hc=>by
    have h:=containsFunc_dists wr.heap.size (fun v=>v.var == var) (ds.take k) (some ⟨b,off,none⟩) cd W ((HD.out.take k).keep (keeps_of_below (HBw.out.trans (hW.mono HBw.out.size)))) (fun v _ aw' cw' w' hb'=>dists1_any v.var aw' v.weights.length cw' var wr.heap.size w' ((keeps_of_below hb') _ _ hc))
    rw[show (ds.take k).length=k from by simp;omega] at h
    exact fr (W0:=wr) (B:=wr.heap.size) h hW hz
   have HDu:=Lib.hid (dup_any hk var)
   clear g0 g1 hW kk
   by_cases hr:RandV vs var
   ·rw[pB_true hr] at HR'
    cases hdu:((ds.take k).any fun v=>v.var == var)
    ·have hdu':=HDu.out.1 hdu
     rw[hdu] at HCF
     by_cases h16:ws.length≤16
     ·cases hw:ws.all weightB
      ·have HNo':=Lib.hid (HNo.out (fun h=>by rw[List.all_eq_true.2 h.ok] at hw;simp at hw))
       rw[hw] at HWt
       clear HNx HNo HDu hdu hdu' hw hr
       go_wp2_with (first | (go_at_call 163;(with_reducible refine(HR'.out _ bel sz).mono ?_);rintro e w1 ⟨rfl,hc1,hf1,hz1,hb1⟩;(try simp only[World.size_alloc] at hz1);have hzl:wr.heap.size < w1.heap.size:=(by omega)) | (go_at_call 164;(with_reducible refine(HCF.out _ bel sz ((hc1 _ _ (by simp)).trans (by simp))).mono ?_);rintro e w1 ⟨rfl,hc2,hf2,hz1,hb1⟩;(try simp only[World.size_alloc] at hz1);have hzl:wr.heap.size < w1.heap.size:=(by omega)) | (go_at_call 166;(with_reducible refine(HWt.out _ bel sz).mono ?_);rintro e w1 ⟨rfl,hc3,hf3,hz1,hb1⟩;(try simp only[World.size_alloc] at hz1);have hzl:wr.heap.size < w1.heap.size:=(by omega)))
       go_ret
       exact⟨.no HNo'.out (by decide),HBw.out.trans ((by assumption:Below wr.heap.size wr _).mono HBw.out.size)⟩
      ·have HOk:=Lib.hid (HNx.out ⟨hr,hdu',h16,List.all_eq_true.1 hw⟩)
       rw[hw] at HWt
       clear HNx HNo HDu hdu hdu' hw hr
       go_wp2_with (first | (go_at_call 163;(with_reducible refine(HR'.out _ bel sz).mono ?_);rintro e w1 ⟨rfl,hc1,hf1,hz1,hb1⟩;(try simp only[World.size_alloc] at hz1);have hzl:wr.heap.size < w1.heap.size:=(by omega)) | (go_at_call 164;(with_reducible refine(HCF.out _ bel sz ((hc1 _ _ (by simp)).trans (by simp))).mono ?_);rintro e w1 ⟨rfl,hc2,hf2,hz1,hb1⟩;(try simp only[World.size_alloc] at hz1);have hzl:wr.heap.size < w1.heap.size:=(by omega)) | (go_at_call 166;(with_reducible refine(HWt.out _ bel sz).mono ?_);rintro e w1 ⟨rfl,hc3,hf3,hz1,hb1⟩;(try simp only[World.size_alloc] at hz1);have hzl:wr.heap.size < w1.heap.size:=(by omega)))
       go_roundw
       case rel=>exact⟨k+1,by go_num,by omega,HOk.out,HBr.out.trans ((by assumption:Below wr.heap.size wr _).mono (by simpa using hzr))⟩
       case measure=>simp[intOf];omega
     ·have HNo':=Lib.hid (HNo.out (fun h=>h16 h.len))
      have h16':17≤ws.length:=by omega
      clear HNx HNo HDu hdu hdu' hr h16
      go_wp2_with (first | (go_at_call 163;(with_reducible refine(HR'.out _ bel sz).mono ?_);rintro e w1 ⟨rfl,hc1,hf1,hz1,hb1⟩;(try simp only[World.size_alloc] at hz1);have hzl:wr.heap.size < w1.heap.size:=(by omega)) | (go_at_call 164;(with_reducible refine(HCF.out _ bel sz ((hc1 _ _ (by simp)).trans (by simp))).mono ?_);rintro e w1 ⟨rfl,hc2,hf2,hz1,hb1⟩;(try simp only[World.size_alloc] at hz1);have hzl:wr.heap.size < w1.heap.size:=(by omega)) | (go_at_call 166;(with_reducible refine(HWt.out _ bel sz).mono ?_);rintro e w1 ⟨rfl,hc3,hf3,hz1,hb1⟩;(try simp only[World.size_alloc] at hz1);have hzl:wr.heap.size < w1.heap.size:=(by omega)))
      go_ret
      exact⟨.no HNo'.out (by decide),HBw.out.trans ((by assumption:Below wr.heap.size wr _).mono HBw.out.size)⟩
    ·have HNo':=Lib.hid (HNo.out (fun h=>by rw[HDu.out.2 h.dup] at hdu;simp at hdu))
     rw[hdu] at HCF
     clear HNx HNo HDu hdu hr
     go_wp2_with (first | (go_at_call 163;(with_reducible refine(HR'.out _ bel sz).mono ?_);rintro e w1 ⟨rfl,hc1,hf1,hz1,hb1⟩;(try simp only[World.size_alloc] at hz1);have hzl:wr.heap.size < w1.heap.size:=(by omega)) | (go_at_call 164;(with_reducible refine(HCF.out _ bel sz ((hc1 _ _ (by simp)).trans (by simp))).mono ?_);rintro e w1 ⟨rfl,hc2,hf2,hz1,hb1⟩;(try simp only[World.size_alloc] at hz1);have hzl:wr.heap.size < w1.heap.size:=(by omega)) | (go_at_call 166;(with_reducible refine(HWt.out _ bel sz).mono ?_);rintro e w1 ⟨rfl,hc3,hf3,hz1,hb1⟩;(try simp only[World.size_alloc] at hz1);have hzl:wr.heap.size < w1.heap.size:=(by omega)))
     go_ret
     exact⟨.no HNo'.out (by decide),HBw.out.trans ((by assumption:Below wr.heap.size wr _).mono HBw.out.size)⟩
   ·have HNo':=Lib.hid (HNo.out (fun h=>hr h.var))
    rw[pB_false hr] at HR'
    clear HNx HNo HDu hr
    go_wp2_with (first | (go_at_call 163;(with_reducible refine(HR'.out _ bel sz).mono ?_);rintro e w1 ⟨rfl,hc1,hf1,hz1,hb1⟩;(try simp only[World.size_alloc] at hz1);have hzl:wr.heap.size < w1.heap.size:=(by omega)) | (go_at_call 164;(with_reducible refine(HCF.out _ bel sz ((hc1 _ _ (by simp)).trans (by simp))).mono ?_);rintro e w1 ⟨rfl,hc2,hf2,hz1,hb1⟩;(try simp only[World.size_alloc] at hz1);have hzl:wr.heap.size < w1.heap.size:=(by omega)) | (go_at_call 166;(with_reducible refine(HWt.out _ bel sz).mono ?_);rintro e w1 ⟨rfl,hc3,hf3,hz1,hb1⟩;(try simp only[World.size_alloc] at hz1);have hzl:wr.heap.size < w1.heap.size:=(by omega)))
    go_ret
    exact⟨.no HNo'.out (by decide),HBw.out.trans ((by assumption:Below wr.heap.size wr _).mono HBw.out.size)⟩
  ·obtain rfl:k=ds.length:=by omega
   go_wp2_with fail
   go_ret
   exact⟨ErrIff.congr (.yes trivial) ⟨fun _ i h=>HAl.out i h h,fun _=>trivial⟩,HBw.out⟩
end Go.Proofs.YtcplmcjbkpmhdaaGreatDoor
namespace Go.Proofs.YtcplmcjbkpmhdaaGreatDoor
open Go.RowKit
theorem flat_split (x:List (List Int)) (k:Nat) (h:k < x.length) (q:Nat) (hq:q < (x[k]'h).length):x.flatten=preG x k++(x[k]'h).take q++(x[k]'h)[q]'hq::((x[k]'h).drop (q+1)++(x.drop (k+1)).flatten):=by
 have h1:x=x.take k++x[k]'h::x.drop (k+1):=by
  rw[← List.drop_eq_getElem_cons h,List.take_append_drop]
 have h2:x[k]'h=(x[k]'h).take q++(x[k]'h)[q]'hq::(x[k]'h).drop (q+1):=by
  rw[← List.drop_eq_getElem_cons hq,List.take_append_drop]
 have h3:x.flatten=preG x k++(x[k]'h++(x.drop (k+1)).flatten):=by
  unfold preG
  conv=>lhs;rw[h1]
  rw[List.flatten_append,List.flatten_cons]
 rw[h3]
 simp only[List.append_assoc]
 congr 1
 rw[← List.cons_append,← List.append_assoc,← h2]
theorem group_dup {l:List VarD} {x:List (List Int)} {k q:Nat} {h:k < x.length} {hq:q < (x[k]'h).length} {n:Nat} (hn:n < l.length) (hv:(x[k]'h)[q]'hq=(n:Int)) (hm:(preG x k++(x[k]'h).take q).contains (n:Int)=true):¬ GroupsOk l x:=by
 intro hg
 have hc:=hg.count n hn
 have hs:=flat_split x k h q hq
 rw[hv] at hs
 have h1:1≤(preG x k++(x[k]'h).take q).count (n:Int):=List.one_le_count_iff.2 (by simpa using hm)
 rw[hs,List.count_append,List.count_cons] at hc
 simp only[beq_self_eq_true,if_true] at hc
 split at hc<;>omega
theorem group_state {l:List VarD} {x:List (List Int)} {g:List Int} {v:Int} (hg:g∈x) (hv:v∈g) (hr:¬ RandV l v):¬ GroupsOk l x:=by
 intro h
 obtain⟨h0,h1⟩:=h.range g hg v hv
 obtain⟨n,rfl⟩:=Int.eq_ofNat_of_zero_le h0
 have hn:n < l.length:=by omega
 have hm:(l[n]'hn).mode=0:=by
  by_cases e:(l[n]'hn).mode=0
  ·exact e
  ·exact absurd ((randV_of hn).2 e) hr
 have hc:=h.count n hn
 rw[if_pos hm] at hc
 have:1≤x.flatten.count (n:Int):=List.one_le_count_iff.2 (List.mem_flatten.2 ⟨g,hg,hv⟩)
 omega
theorem group_all {l:List VarD} {x:List (List Int)} (h1:∀ j (hj:j < x.length),x[j]'hj≠[]) (h2:∀ v,v∈x.flatten→RandV l v) (h3:x.flatten.Nodup) (h4:∀ n (hn:n < l.length),RandV l (n:Int)→(n:Int)∈x.flatten):GroupsOk l x:=by
 refine⟨fun g hg he=>?_,fun g hg v hv=>?_,fun i hi=>?_⟩
 ·obtain⟨j,hj,rfl⟩:=List.getElem_of_mem hg
  exact h1 j hj he
 ·have hr:=h2 v (List.mem_flatten.2 ⟨g,hg,hv⟩)
  by_cases hb:v < l.length
  ·exact⟨hr.1,hb⟩
  ·exact absurd hr (randV_big (by omega))
 ·by_cases hm:(l[i]'hi).mode=0
  ·rw[if_pos hm]
   have:x.flatten.count (i:Int)=0:=by
    rw[List.count_eq_zero]
    intro hmem
    exact(randV_of hi).1 (h2 _ hmem) hm
   omega
  ·rw[if_neg hm]
   have hmem:=h4 i hi ((randV_of hi).2 hm)
   have h5:=List.one_le_count_iff.2 hmem
   have h6:=List.nodup_iff_count.1 h3 (i:Int)
   omega
theorem contains_false_iff (L:List Int) (v:Int):L.contains v=false↔v∉L:=by
 cases h:L.contains v<;>simp_all
theorem nodup_snoc {L:List Int} {v:Int} (h:L.Nodup) (hv:L.contains v=false):(L++[v]).Nodup:=by
 rw[List.nodup_append]
 refine⟨h,by simp,fun a ha b hb=>?_⟩
 simp only[List.mem_singleton] at hb
 subst hb
 rintro rfl
 exact(contains_false_iff L a).1 hv ha
set_option maxRecDepth 100000 in
set_option maxHeartbeats 8000000 in
theorem groups_any (p:ProbD) (x:ProbA) (w:World) (hE:ProbIn w p x) :
  Calls Tryz.prog 114 #[probVal p x] w fun e w'=>ErrIff (GroupsOk p.vars p.groups) e∧Below w.heap.size w w':=by
 have HR:=Lib.hid (fun (i:Int) W (hW:Below w.heap.size w W)=>random_any p x i W (hE.keep (keeps_of_below hW)))
 simp only[probVal_eq] at HR⊢
 have hlen:=hE.groups.2.1
 have hlenV:=hE.vars.2.1
 have HA:=Lib.hid hE.groups.addr
 have HG:=Lib.hid hE.groups
 have hmk:=mk_bools p.vars.length hlenV
 clear hE
 obtain⟨vs,hard,soft,ds,gs⟩:=p
 obtain⟨av,cv,ah,ch,ao,co,ad,cd,ag,cg⟩:=x
 simp only at HR HA HG hlen hlenV hmk⊢
 go_enter Tryz.func114, Tryz.ntmps114
 go_wp2_with fail
 clear hmk
 have hB0:Below (w.heap.size+1) (w.alloc (.cells #[.slice av vs.length cv,.slice ah hard.length ch,.slice ao soft.length co,.slice ad ds.length cd,.slice ag gs.length cg] 27)) ((w.alloc (.cells #[.slice av vs.length cv,.slice ah hard.length ch,.slice ao soft.length co,.slice ad ds.length cd,.slice ag gs.length cg] 27)).alloc (.cells (List.replicate vs.length (Value.bool false)).toArray 4)):=(Below.refl _ _).alloc (by simp) _
 have HB0:=Lib.hid hB0
 have HS0:Hid (SeenRow ((w.alloc (.cells #[.slice av vs.length cv,.slice ah hard.length ch,.slice ao soft.length co,.slice ad ds.length cd,.slice ag gs.length cg] 27)).alloc (.cells (List.replicate vs.length (Value.bool false)).toArray 4)) (w.heap.size+1) vs.length (preG gs 0)):=by
  have h:=frow_new (w.alloc (.cells #[.slice av vs.length cv,.slice ah hard.length ch,.slice ao soft.length co,.slice ad ds.length cd,.slice ag gs.length cg] 27)) 4 vs.length (.bool false)
  rw[World.size_alloc] at h
  exact FRow.congr h (fun i hi=>by simp[preG])
 clear hB0
 go_loopw [16,5,7] (fun i _ _ wr=>∃ k:Nat,i=.int .i64 k∧k≤gs.length∧(∀ j (hj:j < gs.length),j < k→gs[j]'hj≠[])∧(∀ v,v∈preG gs k→RandV vs v)∧(preG gs k).Nodup∧SeenRow wr (w.heap.size+1) vs.length (preG gs k)∧Below (w.heap.size+1) (w.alloc (.cells #[.slice av vs.length cv,.slice ah hard.length ch,.slice ao soft.length co,.slice ad ds.length cd,.slice ag gs.length cg] 27)) wr) (fun i _ _ _=>gs.length - (intOf i).toNat)
 case atStart=>exact⟨0,rfl,Nat.zero_le _,fun _ _ h=>absurd h (by omega),fun v hv=>absurd hv (by simp[preG]),by simp[preG],HS0.out,HB0.out⟩
 case round =>
  obtain⟨k,rfl,hk,hne,hrg,hnd,hcr,hBr⟩:=hrel
  have HNe:=Lib.hid hne
  have HRg:=Lib.hid hrg
  have HNd:=Lib.hid hnd
  have HCr:=Lib.hid hcr
  have HBr:=Lib.hid hBr
  have HBw:=Lib.hid (boxW _ hBr)
  have hzr:=hBr.size
  simp only[World.size_alloc] at hzr
  have cb:∀ j (hj:j < 5),wr.cell? ⟨w.heap.size,j,none⟩=(#[Value.slice av vs.length cv,.slice ah hard.length ch,.slice ao soft.length co,.slice ad ds.length cd,.slice ag gs.length cg]:Array Value)[j]?:=fun j _=>(hBr.cell (p:=⟨w.heap.size,j,none⟩) (by simp)).trans (by simp)
  have b0:wr.cell? ⟨w.heap.size,0,none⟩=_:=cb 0 (by decide)
  have b1:wr.cell? ⟨w.heap.size,1,none⟩=_:=cb 1 (by decide)
  have b2:wr.cell? ⟨w.heap.size,2,none⟩=_:=cb 2 (by decide)
  have b3:wr.cell? ⟨w.heap.size,3,none⟩=_:=cb 3 (by decide)
  have b4:wr.cell? ⟨w.heap.size,4,none⟩=_:=cb 4 (by decide)
  (try simp at b0 b1 b2 b3 b4)
  clear hne hrg hnd hcr cb hBr
  by_cases hlt:k < gs.length
  ·obtain⟨b,off,ha⟩:=HA.out.resolve_left (by omega)
   subst ha
   obtain⟨agr,cgr,g0,hG⟩:=HG.out.get rfl hlt
   have HP:=Lib.hid (preG_succ gs k hlt)
   have HM:Hid ((gs[k]'hlt)∈gs):=List.getElem_mem hlt
   have HDp:Hid (∀ q (hq:q < (gs[k]'hlt).length) n (_:n < vs.length),(gs[k]'hlt)[q]'hq=(n:Int)→(preG gs k++(gs[k]'hlt).take q).contains (n:Int)=true→¬ GroupsOk vs gs):=fun q hq n hn=>group_dup hn
   have HNx:Hid ((gs[k]'hlt)≠[]→∀ j (hj:j < gs.length),j < k+1→gs[j]'hj≠[]):=fun hv j hj hjk=>by
    by_cases e:j=k
    ·subst e;exact hv
    ·exact HNe.out j hj (by omega)
   generalize (gs[k]'hlt)=g at g0 hG HP HM HNx HDp
   have hlg:=hG.2.1
   have HGg:=Lib.hid hG
   have HAG:=Lib.hid hG.addr
   have c0:=(keeps_of_below HBw.out) _ _ g0
   clear hG g0
   by_cases hg0:g=[]
   ·have HNo:Hid (¬ GroupsOk vs gs):=fun h=>h.ne g HM.out hg0
    subst hg0
    go_wp2_with fail
    go_ret
    exact⟨.no HNo.out (by decide),HBw.out⟩
   ·have hgl:1≤g.length:=by
     cases g with
     | nil=>exact absurd rfl hg0
     | cons=>simp
    have HNx':=Lib.hid (HNx.out hg0)
    have hg0b:((g.length:Int) == 0)=false:=by simp;omega
    clear hg0 HNx
    go_wp2_with fail
    go_loopw [25,7] (fun i _ wr=>∃ q:Nat,i=.int .i64 q∧q≤g.length∧(∀ v,v∈preG gs k++g.take q→RandV vs v)∧(preG gs k++g.take q).Nodup∧SeenRow wr (w.heap.size+1) vs.length (preG gs k++g.take q)∧Below (w.heap.size+1) (w.alloc (.cells #[.slice av vs.length cv,.slice ah hard.length ch,.slice ao soft.length co,.slice ad ds.length cd,.slice (some ⟨b,off,none⟩) gs.length cg] 27)) wr) (fun i _ _=>g.length - (intOf i).toNat)
    case atStart=>exact⟨0,rfl,Nat.zero_le _,by simpa using HRg.out,by simpa using HNd.out,by simpa using HCr.out,HBr.out⟩
    case round =>
     obtain⟨q,rfl,hq,hrg,hnd,hcr,hBq⟩:=hrel
     have HRq:=Lib.hid hrg
     have HNq:=Lib.hid hnd
     have HCq:=Lib.hid hcr
     have HBq:=Lib.hid hBq
     have HBqw:=Lib.hid (boxW _ hBq)
     have hzq:=hBq.size
     have hltq:=hcr.lt
     simp only[World.size_alloc] at hzq
     clear hrg hnd b0 b1 b2 b3 b4 c0
     by_cases hql:q < g.length
     ·have cb:∀ j (hj:j < 5),wr.cell? ⟨w.heap.size,j,none⟩=(#[Value.slice av vs.length cv,.slice ah hard.length ch,.slice ao soft.length co,.slice ad ds.length cd,.slice (some ⟨b,off,none⟩) gs.length cg]:Array Value)[j]?:=fun j _=>(hBq.cell (p:=⟨w.heap.size,j,none⟩) (by simp)).trans (by simp)
      have b0:wr.cell? ⟨w.heap.size,0,none⟩=_:=cb 0 (by decide)
      have b1:wr.cell? ⟨w.heap.size,1,none⟩=_:=cb 1 (by decide)
      have b2:wr.cell? ⟨w.heap.size,2,none⟩=_:=cb 2 (by decide)
      have b3:wr.cell? ⟨w.heap.size,3,none⟩=_:=cb 3 (by decide)
      have b4:wr.cell? ⟨w.heap.size,4,none⟩=_:=cb 4 (by decide)
      (try simp at b0 b1 b2 b3 b4)
      obtain⟨bg,og,hag⟩:=HAG.out.resolve_left (by omega)
      subst hag
      have hv0:=intsIn_get HGg.out rfl hql
      have HT:=Lib.hid (take_snocI g q hql)
      have HMv:Hid ((g[q]'hql)∈g):=List.getElem_mem hql
      have HDv:=Lib.hid (fun n hn hv=>HDp.out q hql n hn hv)
      generalize (g[q]'hql)=v at hv0 HT HMv HDv
      have d0:=(keeps_of_below HBqw.out) _ _ hv0
      have HR':=Lib.hid (fun W (hW:Below wr.heap.size wr W) hz=>fr (W0:=wr) (B:=wr.heap.size) (HR.out v W (HBqw.out.trans (hW.mono HBqw.out.size))) hW hz)
      clear hv0 hBq cb
      by_cases hr:RandV vs v
      ·obtain⟨n,rfl⟩:=Int.eq_ofNat_of_zero_le hr.1
       have hn:n < vs.length:=by
        by_cases hb:n < vs.length
        ·exact hb
        ·exact absurd hr (randV_big (by omega))
       rw[pB_true hr] at HR'
       have e0:=FRow.cell hcr hn
       have f0:=FRow.free hcr n
       (try simp only at e0)
       have HFr:=Lib.hid hr
       cases hsn:(preG gs k++g.take q).contains (n:Int)
       ·rw[hsn] at e0
        have HAdd:Hid (∀ W,Below wr.heap.size wr W→SeenRow (W.setCell ⟨w.heap.size+1,n,none⟩ (.bool true)) (w.heap.size+1) vs.length ((preG gs k++g.take q)++[(n:Int)])):=fun W hW=>SeenRow.add (FRow.keep HCq.out hW) hn
        have HNn:=Lib.hid (nodup_snoc HNq.out hsn)
        clear hcr hr hsn
        go_wp2_with (go_at_call 163;(with_reducible refine(HR'.out _ bel sz).mono ?_);rintro e w1 ⟨rfl,hc1,hf1,hz1,hb1⟩;(try simp only[World.size_alloc] at hz1);have hzl:w.heap.size+1 < w1.heap.size:=(by omega))
        go_roundw
        case rel=>exact⟨q+1,by go_num,by omega,fun u hu=>by
         rw[HT.out,← List.append_assoc,List.mem_append] at hu
         rcases hu with hu | hu
         ·exact HRq.out u hu
         ·simp only[List.mem_singleton] at hu;subst hu;exact HFr.out,by rw[HT.out,← List.append_assoc];exact HNn.out,by rw[HT.out,← List.append_assoc];exact HAdd.out _ (by assumption),(HBq.out.trans ((by assumption:Below wr.heap.size wr _).mono (by simpa using hzq))).setCell (by simp) _⟩
        case measure=>simp[intOf];omega
       ·rw[hsn] at e0
        have HNo:=Lib.hid (HDv.out n hn rfl hsn)
        clear hcr hr hsn
        go_wp2_with (go_at_call 163;(with_reducible refine(HR'.out _ bel sz).mono ?_);rintro e w1 ⟨rfl,hc1,hf1,hz1,hb1⟩;(try simp only[World.size_alloc] at hz1);have hzl:w.heap.size+1 < w1.heap.size:=(by omega))
        go_ret
        exact⟨.no HNo.out (by decide),HBqw.out.trans ((by assumption:Below wr.heap.size wr _).mono HBqw.out.size)⟩
      ·have HNo:=Lib.hid (group_state HM.out HMv.out hr)
       rw[pB_false hr] at HR'
       clear hcr hr
       go_wp2_with (go_at_call 163;(with_reducible refine(HR'.out _ bel sz).mono ?_);rintro e w1 ⟨rfl,hc1,hf1,hz1,hb1⟩;(try simp only[World.size_alloc] at hz1);have hzl:w.heap.size+1 < w1.heap.size:=(by omega))
       go_ret
       exact⟨.no HNo.out (by decide),HBqw.out.trans ((by assumption:Below wr.heap.size wr _).mono HBqw.out.size)⟩
     ·obtain rfl:q=g.length:=by omega
      have hp:preG gs (k+1)=preG gs k++g.take g.length:=by rw[HP.out,List.take_of_length_le (Nat.le_refl _)]
      rw[← hp] at HRq HNq HCq
      clear hcr hBq hp
      go_wp2_with fail
      go_roundw
      case rel=>exact⟨k+1,by go_num,by omega,HNx'.out,HRq.out,HNq.out,HCq.out,HBq.out⟩
      case measure=>simp[intOf];omega
  ·obtain rfl:k=gs.length:=by omega
   have hpa:=preG_all gs
   rw[hpa] at HRg HNd HCr
   clear hpa
   go_wp2_with fail
   go_loopw [47,8] (fun i _ wr=>∃ q:Nat,i=.int .i64 q∧q≤vs.length∧(∀ n (hn:n < vs.length),n < q→RandV vs (n:Int)→(n:Int)∈gs.flatten)∧SeenRow wr (w.heap.size+1) vs.length gs.flatten∧Below (w.heap.size+1) (w.alloc (.cells #[.slice av vs.length cv,.slice ah hard.length ch,.slice ao soft.length co,.slice ad ds.length cd,.slice ag gs.length cg] 27)) wr) (fun i _ _=>vs.length - (intOf i).toNat)
   case atStart=>exact⟨0,rfl,Nat.zero_le _,fun _ _ h=>absurd h (by omega),HCr.out,HBr.out⟩
   case round =>
    obtain⟨q,rfl,hq,hall,hcr,hBq⟩:=hrel
    have HAl:=Lib.hid hall
    have HCq:=Lib.hid hcr
    have HBq:=Lib.hid hBq
    have HBqw:=Lib.hid (boxW _ hBq)
    have hzq:=hBq.size
    have hltq:=hcr.lt
    simp only[World.size_alloc] at hzq
    clear hall b0 b1 b2 b3 b4
    by_cases hql:q < vs.length
    ·have cb:∀ j (hj:j < 5),wr.cell? ⟨w.heap.size,j,none⟩=(#[Value.slice av vs.length cv,.slice ah hard.length ch,.slice ao soft.length co,.slice ad ds.length cd,.slice ag gs.length cg]:Array Value)[j]?:=fun j _=>(hBq.cell (p:=⟨w.heap.size,j,none⟩) (by simp)).trans (by simp)
     have b0:wr.cell? ⟨w.heap.size,0,none⟩=_:=cb 0 (by decide)
     have b1:wr.cell? ⟨w.heap.size,1,none⟩=_:=cb 1 (by decide)
     have b2:wr.cell? ⟨w.heap.size,2,none⟩=_:=cb 2 (by decide)
     have b3:wr.cell? ⟨w.heap.size,3,none⟩=_:=cb 3 (by decide)
     have b4:wr.cell? ⟨w.heap.size,4,none⟩=_:=cb 4 (by decide)
     (try simp at b0 b1 b2 b3 b4)
     have e0:=FRow.cell hcr hql
     (try simp only at e0)
     have HR':=Lib.hid (fun W (hW:Below wr.heap.size wr W) hz=>fr (W0:=wr) (B:=wr.heap.size) (HR.out (q:Int) W (HBqw.out.trans (hW.mono HBqw.out.size))) hW hz)
     have HNx:Hid ((RandV vs (q:Int)→(q:Int)∈gs.flatten)→∀ n (hn:n < vs.length),n < q+1→RandV vs (n:Int)→(n:Int)∈gs.flatten):=fun hv n hn hnq hr=>by
      by_cases e:n=q
      ·subst e;exact hv hr
      ·exact HAl.out n hn (by omega) hr
     clear hcr hBq cb
     by_cases hr:RandV vs (q:Int)
     ·rw[pB_true hr] at HR'
      cases hsn:gs.flatten.contains (q:Int)
      ·have HNo:Hid (¬ GroupsOk vs gs):=fun h=>by
        have hc:=h.count q hql
        rw[if_neg ((randV_of hql).1 hr),List.count_eq_zero.2 ((contains_false_iff _ _).1 hsn)] at hc
        simp at hc
       rw[hsn] at e0
       clear HNx hr hsn
       go_wp2_with (go_at_call 163;(with_reducible refine(HR'.out _ bel sz).mono ?_);rintro e w1 ⟨rfl,hc1,hf1,hz1,hb1⟩;(try simp only[World.size_alloc] at hz1);have hzl:w.heap.size+1 < w1.heap.size:=(by omega))
       go_ret
       exact⟨.no HNo.out (by decide),HBqw.out.trans ((by assumption:Below wr.heap.size wr _).mono HBqw.out.size)⟩
      ·have HNx':=Lib.hid (HNx.out (fun _=>by simpa using hsn))
       rw[hsn] at e0
       clear HNx hr hsn
       go_wp2_with (go_at_call 163;(with_reducible refine(HR'.out _ bel sz).mono ?_);rintro e w1 ⟨rfl,hc1,hf1,hz1,hb1⟩;(try simp only[World.size_alloc] at hz1);have hzl:w.heap.size+1 < w1.heap.size:=(by omega))
       go_roundw
       case rel=>exact⟨q+1,by go_num,by omega,HNx'.out,FRow.keep HCq.out (by assumption),HBq.out.trans ((by assumption:Below wr.heap.size wr _).mono (by simpa using hzq))⟩
       case measure=>simp[intOf];omega
     ·have HNx':=Lib.hid (HNx.out (fun h=>absurd h hr))
      rw[pB_false hr] at HR'
      clear HNx hr
      go_wp2_with (go_at_call 163;(with_reducible refine(HR'.out _ bel sz).mono ?_);rintro e w1 ⟨rfl,hc1,hf1,hz1,hb1⟩;(try simp only[World.size_alloc] at hz1);have hzl:w.heap.size+1 < w1.heap.size:=(by omega))
      go_roundw
      case rel=>exact⟨q+1,by go_num,by omega,HNx'.out,FRow.keep HCq.out (by assumption),HBq.out.trans ((by assumption:Below wr.heap.size wr _).mono (by simpa using hzq))⟩
      case measure=>simp[intOf];omega
    ·obtain rfl:q=vs.length:=by omega
     have HY:Hid (GroupsOk vs gs):=group_all (fun j hj=>HNe.out j hj hj) HRg.out HNd.out (fun n hn=>HAl.out n hn hn)
     clear hcr hBq
     go_wp2_with fail
     go_ret
     exact⟨.yes HY.out,HBqw.out⟩
end Go.Proofs.YtcplmcjbkpmhdaaGreatDoor
namespace Go.Proofs.YtcplmcjbkpmhdaaGreatDoor
open Go.RowKit
set_option maxRecDepth 100000 in
set_option maxHeartbeats 2000000 in
theorem checks_any (bo c:Nat) (P0 P1 P2 P3:Prop) (w:World) (c0:w.cell? ⟨bo,0,none⟩=some (.func (.func 107) #[] #[.pointer (some ⟨c,0,none⟩)])) (c1:w.cell? ⟨bo,1,none⟩=some (.func (.func 109) #[] #[.pointer (some ⟨c,0,none⟩)])) (c2:w.cell? ⟨bo,2,none⟩=some (.func (.func 111) #[] #[.pointer (some ⟨c,0,none⟩)])) (c3:w.cell? ⟨bo,3,none⟩=some (.func (.func 113) #[] #[.pointer (some ⟨c,0,none⟩)])) (h0:∀ W,Below w.heap.size w W→Calls Tryz.prog 107 #[.pointer (some ⟨c,0,none⟩)] W fun e w'=>ErrIff P0 e∧Below W.heap.size W w') (h1:∀ W,Below w.heap.size w W→Calls Tryz.prog 109 #[.pointer (some ⟨c,0,none⟩)] W fun e w'=>ErrIff P1 e∧Below W.heap.size W w') (h2:∀ W,Below w.heap.size w W→Calls Tryz.prog 111 #[.pointer (some ⟨c,0,none⟩)] W fun e w'=>ErrIff P2 e∧Below W.heap.size W w') (h3:∀ W,Below w.heap.size w W→Calls Tryz.prog 113 #[.pointer (some ⟨c,0,none⟩)] W fun e w'=>ErrIff P3 e∧Below W.heap.size W w') :
  Calls Tryz.prog 106 #[.slice (some ⟨bo,0,none⟩) 4 4] w fun e w'=>ErrIff (P0∧P1∧P2∧P3) e∧Below w.heap.size w w':=by
 have H0:=Lib.hid h0
 have C0:=Lib.hid c0
 have H1:=Lib.hid h1
 have C1:=Lib.hid c1
 have H2:=Lib.hid h2
 have C2:=Lib.hid c2
 have H3:=Lib.hid h3
 have C3:=Lib.hid c3
 clear h0 h1 h2 h3
 go_enter Tryz.func106, Tryz.ntmps106
 go_wp2_with fail
 go_loopw [8,4,5] (fun i _ _ wr=>∃ k:Nat,i=.int .i64 k∧k≤4∧(1≤k→P0)∧(2≤k→P1)∧(3≤k→P2)∧(4≤k→P3)∧Below w.heap.size w wr) (fun i _ _ _=>4 - (intOf i).toNat)
 case atStart=>exact⟨0,rfl,by omega,fun h=>absurd h (by omega),fun h=>absurd h (by omega),fun h=>absurd h (by omega),fun h=>absurd h (by omega),Below.refl _ _⟩
 case round =>
  obtain⟨k,rfl,hk,q0,q1,q2,q3,hBr⟩:=hrel
  have HQ:=Lib.hid (⟨q0,q1,q2,q3⟩:_∧_∧_∧_)
  have HBr:=Lib.hid hBr
  clear q0 q1 q2 q3 c0 c1 c2 c3
  have hk4:k=0∨k=1∨k=2∨k=3∨k=4:=by omega
  rcases hk4 with rfl | rfl | rfl | rfl | rfl
  ·have cc:=(keeps_of_below hBr) _ _ C0.out
   by_cases hp:P0
   ·have HC:=Lib.hid ((errT (H0.out wr hBr) hp).mono fun e w' h=>(⟨h.1,HBr.out.trans (h.2.mono HBr.out.size)⟩:_∧Below w.heap.size w w'))
    have HP:=Lib.hid hp
    clear hBr hp
    go_wp2_with fail
    refine HC.out.mono ?_
    rintro e w1 ⟨rfl,hb1⟩
    have HB1:=Lib.hid hb1
    clear hb1 cc
    go_wp2_with fail
    go_roundw
    case rel=>exact⟨1,by go_num,by decide,fun _=>HP.out,fun h=>absurd h (by decide),fun h=>absurd h (by decide),fun h=>absurd h (by decide),HB1.out⟩
    case measure=>simp[intOf]
   ·have HC:=Lib.hid ((errF (H0.out wr hBr) hp).mono fun e w' h=>(⟨h.1,HBr.out.trans (h.2.mono HBr.out.size)⟩:_∧Below w.heap.size w w'))
    have HP:Hid (¬ (P0∧P1∧P2∧P3)):=fun h=>hp h.1
    clear hBr hp
    go_wp2_with fail
    refine HC.out.mono ?_
    rintro e w1 ⟨⟨n,rfl,hn⟩,hb1⟩
    have HB1:=Lib.hid hb1
    clear hb1 cc
    go_wp2_with fail
    go_ret
    exact⟨.no HP.out (by simpa using hn),HB1.out⟩
  ·have cc:=(keeps_of_below hBr) _ _ C1.out
   by_cases hp:P1
   ·have HC:=Lib.hid ((errT (H1.out wr hBr) hp).mono fun e w' h=>(⟨h.1,HBr.out.trans (h.2.mono HBr.out.size)⟩:_∧Below w.heap.size w w'))
    have HP:=Lib.hid hp
    clear hBr hp
    go_wp2_with fail
    refine HC.out.mono ?_
    rintro e w1 ⟨rfl,hb1⟩
    have HB1:=Lib.hid hb1
    clear hb1 cc
    go_wp2_with fail
    go_roundw
    case rel=>exact⟨2,by go_num,by decide,fun _=>HQ.out.1 (by decide),fun _=>HP.out,fun h=>absurd h (by decide),fun h=>absurd h (by decide),HB1.out⟩
    case measure=>simp[intOf]
   ·have HC:=Lib.hid ((errF (H1.out wr hBr) hp).mono fun e w' h=>(⟨h.1,HBr.out.trans (h.2.mono HBr.out.size)⟩:_∧Below w.heap.size w w'))
    have HP:Hid (¬ (P0∧P1∧P2∧P3)):=fun h=>hp h.2.1
    clear hBr hp
    go_wp2_with fail
    refine HC.out.mono ?_
    rintro e w1 ⟨⟨n,rfl,hn⟩,hb1⟩
    have HB1:=Lib.hid hb1
    clear hb1 cc
    go_wp2_with fail
    go_ret
    exact⟨.no HP.out (by simpa using hn),HB1.out⟩
  ·have cc:=(keeps_of_below hBr) _ _ C2.out
   by_cases hp:P2
   ·have HC:=Lib.hid ((errT (H2.out wr hBr) hp).mono fun e w' h=>(⟨h.1,HBr.out.trans (h.2.mono HBr.out.size)⟩:_∧Below w.heap.size w w'))
    have HP:=Lib.hid hp
    clear hBr hp
    go_wp2_with fail
    refine HC.out.mono ?_
    rintro e w1 ⟨rfl,hb1⟩
    have HB1:=Lib.hid hb1
    clear hb1 cc
    go_wp2_with fail
    go_roundw
    case rel=>exact⟨3,by go_num,by decide,fun _=>HQ.out.1 (by decide),fun _=>HQ.out.2.1 (by decide),fun _=>HP.out,fun h=>absurd h (by decide),HB1.out⟩
    case measure=>simp[intOf]
   ·have HC:=Lib.hid ((errF (H2.out wr hBr) hp).mono fun e w' h=>(⟨h.1,HBr.out.trans (h.2.mono HBr.out.size)⟩:_∧Below w.heap.size w w'))
    have HP:Hid (¬ (P0∧P1∧P2∧P3)):=fun h=>hp h.2.2.1
    clear hBr hp
    go_wp2_with fail
    refine HC.out.mono ?_
    rintro e w1 ⟨⟨n,rfl,hn⟩,hb1⟩
    have HB1:=Lib.hid hb1
    clear hb1 cc
    go_wp2_with fail
    go_ret
    exact⟨.no HP.out (by simpa using hn),HB1.out⟩
  ·have cc:=(keeps_of_below hBr) _ _ C3.out
   by_cases hp:P3
   ·have HC:=Lib.hid ((errT (H3.out wr hBr) hp).mono fun e w' h=>(⟨h.1,HBr.out.trans (h.2.mono HBr.out.size)⟩:_∧Below w.heap.size w w'))
    have HP:=Lib.hid hp
    clear hBr hp
    go_wp2_with fail
    refine HC.out.mono ?_
    rintro e w1 ⟨rfl,hb1⟩
    have HB1:=Lib.hid hb1
    clear hb1 cc
    go_wp2_with fail
    go_roundw
    case rel=>exact⟨4,by go_num,by decide,fun _=>HQ.out.1 (by decide),fun _=>HQ.out.2.1 (by decide),fun _=>HQ.out.2.2.1 (by decide),fun _=>HP.out,HB1.out⟩
    case measure=>simp[intOf]
   ·have HC:=Lib.hid ((errF (H3.out wr hBr) hp).mono fun e w' h=>(⟨h.1,HBr.out.trans (h.2.mono HBr.out.size)⟩:_∧Below w.heap.size w w'))
    have HP:Hid (¬ (P0∧P1∧P2∧P3)):=fun h=>hp h.2.2.2
    clear hBr hp
    go_wp2_with fail
    refine HC.out.mono ?_
    rintro e w1 ⟨⟨n,rfl,hn⟩,hb1⟩
    have HB1:=Lib.hid hb1
    clear hb1 cc
    go_wp2_with fail
    go_ret
    exact⟨.no HP.out (by simpa using hn),HB1.out⟩
  ·clear hBr
   go_wp2_with fail
   go_ret
   exact⟨.yes ⟨HQ.out.1 (by decide),HQ.out.2.1 (by decide),HQ.out.2.2.1 (by decide),HQ.out.2.2.2 (by decide)⟩,HBr.out⟩
def PBox (w:World) (p:ProbD) (x:ProbA) (c:Nat):Prop:=∀ j,j < 5→w.cell? ⟨c,j,none⟩=(probVals p x)[j]?
theorem PBox.keep {w w':World} {p:ProbD} {x:ProbA} {c:Nat} (h:PBox w p x c) (hb:Below w.heap.size w w'):PBox w' p x c:=fun j hj=>by
 have h1:=h j hj
 have h2:∃ v,(probVals p x)[j]? = some v:=by
  unfold probVals
  have:j=0∨j=1∨j=2∨j=3∨j=4:=by omega
  rcases this with rfl | rfl | rfl | rfl | rfl<;>exact⟨_,rfl⟩
 obtain⟨v,hv⟩:=h2
 rw[hv] at h1⊢
 exact keeps_of_below hb _ _ h1
set_option maxHeartbeats 1000000 in
theorem Valid1_any (p:ProbD) (x:ProbA) (c:Nat) (w:World) (hE:ProbIn w p x) (hs:ProbSmall p) (hG:Glob w) (hb:PBox w p x c) :
  Calls Tryz.prog 107 #[.pointer (some ⟨c,0,none⟩)] w fun e w'=>ErrIff (VarsOk p.vars) e∧Below w.heap.size w w':=by
 have HC:=Lib.hid (vars_any p.vars x.av x.cv w hE.vars hG)
 (try simp only[probVal_eq] at HC)
 have b0:=hb 0 (by decide)
 have b1:=hb 1 (by decide)
 have b2:=hb 2 (by decide)
 have b3:=hb 3 (by decide)
 have b4:=hb 4 (by decide)
 simp[probVals] at b0 b1 b2 b3 b4
 clear hE hs hG hb
 go_enter Tryz.func107, Tryz.ntmps107
 go_wp2_with fail
 refine HC.out.mono ?_
 rintro e w1 ⟨⟨n,rfl,hn⟩,hb1⟩
 have HB1:=Lib.hid hb1
 clear hb1
 go_wp2_with fail
 go_ret
 exact⟨⟨n,rfl,hn⟩,HB1.out⟩
set_option maxHeartbeats 1000000 in
theorem Valid2_any (p:ProbD) (x:ProbA) (c:Nat) (w:World) (hE:ProbIn w p x) (hs:ProbSmall p) (hG:Glob w) (hb:PBox w p x c) :
  Calls Tryz.prog 109 #[.pointer (some ⟨c,0,none⟩)] w fun e w'=>ErrIff (∀ i (h:i < (p.hard++p.soft).length),ExprOk p.vars ((p.hard++p.soft)[i]'h)) e∧Below w.heap.size w w':=by
 have HC:=Lib.hid (exprs_any p x w hE hs hG)
 (try simp only[probVal_eq] at HC)
 have b0:=hb 0 (by decide)
 have b1:=hb 1 (by decide)
 have b2:=hb 2 (by decide)
 have b3:=hb 3 (by decide)
 have b4:=hb 4 (by decide)
 simp[probVals] at b0 b1 b2 b3 b4
 clear hE hs hG hb
 go_enter Tryz.func109, Tryz.ntmps109
 go_wp2_with fail
 refine HC.out.mono ?_
 rintro e w1 ⟨⟨n,rfl,hn⟩,hb1⟩
 have HB1:=Lib.hid hb1
 clear hb1
 go_wp2_with fail
 go_ret
 exact⟨⟨n,rfl,hn⟩,HB1.out⟩
set_option maxHeartbeats 1000000 in
theorem Valid3_any (p:ProbD) (x:ProbA) (c:Nat) (w:World) (hE:ProbIn w p x) (hs:ProbSmall p) (hG:Glob w) (hb:PBox w p x c) :
  Calls Tryz.prog 111 #[.pointer (some ⟨c,0,none⟩)] w fun e w'=>ErrIff (DistsOk p.vars p.dists) e∧Below w.heap.size w w':=by
 have HC:=Lib.hid (dists_any p x w hE)
 (try simp only[probVal_eq] at HC)
 have b0:=hb 0 (by decide)
 have b1:=hb 1 (by decide)
 have b2:=hb 2 (by decide)
 have b3:=hb 3 (by decide)
 have b4:=hb 4 (by decide)
 simp[probVals] at b0 b1 b2 b3 b4
 clear hE hs hG hb
 go_enter Tryz.func111, Tryz.ntmps111
 go_wp2_with fail
 refine HC.out.mono ?_
 rintro e w1 ⟨⟨n,rfl,hn⟩,hb1⟩
 have HB1:=Lib.hid hb1
 clear hb1
 go_wp2_with fail
 go_ret
 exact⟨⟨n,rfl,hn⟩,HB1.out⟩
set_option maxHeartbeats 1000000 in
theorem Valid4_any (p:ProbD) (x:ProbA) (c:Nat) (w:World) (hE:ProbIn w p x) (hs:ProbSmall p) (hG:Glob w) (hb:PBox w p x c) :
  Calls Tryz.prog 113 #[.pointer (some ⟨c,0,none⟩)] w fun e w'=>ErrIff (GroupsOk p.vars p.groups) e∧Below w.heap.size w w':=by
 have HC:=Lib.hid (groups_any p x w hE)
 (try simp only[probVal_eq] at HC)
 have b0:=hb 0 (by decide)
 have b1:=hb 1 (by decide)
 have b2:=hb 2 (by decide)
 have b3:=hb 3 (by decide)
 have b4:=hb 4 (by decide)
 simp[probVals] at b0 b1 b2 b3 b4
 clear hE hs hG hb
 go_enter Tryz.func113, Tryz.ntmps113
 go_wp2_with fail
 refine HC.out.mono ?_
 rintro e w1 ⟨⟨n,rfl,hn⟩,hb1⟩
 have HB1:=Lib.hid hb1
 clear hb1
 go_wp2_with fail
 go_ret
 exact⟨⟨n,rfl,hn⟩,HB1.out⟩
theorem probOk_iff (p:ProbD):(VarsOk p.vars∧(∀ i (h:i < (p.hard++p.soft).length),ExprOk p.vars ((p.hard++p.soft)[i]'h))∧DistsOk p.vars p.dists∧GroupsOk p.vars p.groups)↔ProbOk p:=by
 constructor
 ·rintro ⟨h1,h2,h3,h4⟩
  refine⟨h1,fun i h=>?_,fun i h=>?_,h3,h4⟩
  ·have:=h2 i (by rw[List.length_append];omega)
   rwa [List.getElem_append_left h] at this
  ·have:=h2 (p.hard.length+i) (by rw[List.length_append];omega)
   rw[List.getElem_append_right (by omega)] at this
   simpa using this
 ·intro h
  refine⟨h.vars,fun i hi=>?_,h.dists,h.groups⟩
  by_cases hl:i < p.hard.length
  ·rw[List.getElem_append_left hl];exact h.hard i hl
  ·rw[List.getElem_append_right (by omega)]
   exact h.soft _ _
set_option maxRecDepth 100000 in
set_option maxHeartbeats 2000000 in
theorem Valid_any (p:ProbD) (x:ProbA) (w:World) (hE:ProbIn w p x) (hs:ProbSmall p) (hG:Glob w) :
  Calls Tryz.prog 58 #[probVal p x] w fun e w'=>ErrIff (ProbOk p) e∧Below w.heap.size w w':=by
 have hB:Below w.heap.size w ((w.alloc (.cells (probVals p x) 27)).alloc (.cells #[.func (.func 107) #[] #[.pointer (some ⟨w.heap.size,0,none⟩)],.func (.func 109) #[] #[.pointer (some ⟨w.heap.size,0,none⟩)],.func (.func 111) #[] #[.pointer (some ⟨w.heap.size,0,none⟩)],.func (.func 113) #[] #[.pointer (some ⟨w.heap.size,0,none⟩)]] 136)):=bel
 have hP:PBox ((w.alloc (.cells (probVals p x) 27)).alloc (.cells #[.func (.func 107) #[] #[.pointer (some ⟨w.heap.size,0,none⟩)],.func (.func 109) #[] #[.pointer (some ⟨w.heap.size,0,none⟩)],.func (.func 111) #[] #[.pointer (some ⟨w.heap.size,0,none⟩)],.func (.func 113) #[] #[.pointer (some ⟨w.heap.size,0,none⟩)]] 136)) p x w.heap.size:=fun j hj=>by
  rw[World.cell?_alloc_lt _ _ _ (by simp),World.cell?_alloc_new]
 have HC:=Lib.hid (checks_any (w.heap.size+1) w.heap.size _ _ _ _ _ (by simp) (by simp) (by simp) (by simp)
  (fun W hW=>Valid1_any p x w.heap.size W (hE.keep (keeps_of_below (hB.trans (hW.mono hB.size)))) hs (hG.below (hB.trans (hW.mono hB.size))) (hP.keep hW))
  (fun W hW=>Valid2_any p x w.heap.size W (hE.keep (keeps_of_below (hB.trans (hW.mono hB.size)))) hs (hG.below (hB.trans (hW.mono hB.size))) (hP.keep hW))
  (fun W hW=>Valid3_any p x w.heap.size W (hE.keep (keeps_of_below (hB.trans (hW.mono hB.size)))) hs (hG.below (hB.trans (hW.mono hB.size))) (hP.keep hW))
  (fun W hW=>Valid4_any p x w.heap.size W (hE.keep (keeps_of_below (hB.trans (hW.mono hB.size)))) hs (hG.below (hB.trans (hW.mono hB.size))) (hP.keep hW)))
 have HI:=Lib.hid (probOk_iff p)
 have HB:=Lib.hid hB
 clear hE hs hG hP hB
 rw[probVal_eq]
 unfold probVals at HC HB
 go_enter Tryz.func58, Tryz.ntmps58
 go_wp2_with fail
 refine HC.out.mono ?_
 rintro e w1 ⟨⟨n,rfl,hn⟩,hb1⟩
 have HB1:=Lib.hid hb1
 have HN:=Lib.hid hn
 clear hb1 hn
 go_wp2_with fail
 go_ret
 exact⟨⟨n,rfl,HN.out.trans HI.out⟩,HB.out.trans (HB1.out.mono (by simp;omega))⟩
end Go.Proofs.YtcplmcjbkpmhdaaGreatDoor
