/- mutate.Mutant. -/
import Derived.Test.YtebneadheaefdaaGreatDoorFH
import Derived.Test.YtebneadheaefdaaGreatDoorFK
set_option linter.unusedSimpArgs false
set_option linter.unusedVariables false
set_option linter.unnecessarySimpa false
namespace Go.Proofs.YtebneadheaefdaaGreatDoor
open Go.RowKit
attribute [local go_sem ↓] Go.wp_at_zero Go.wp_at_succ
def zD:DesD:=⟨⟨#[]⟩,[],[],[],[]⟩
def zA:DesA:=⟨none,0,none,0,none,0,none,0⟩
noncomputable def mutAt (d:DesD) (k:Int):DesD × Int:=if d.err=0 then (if h:0≤k∧k.toNat < (mutL d).length then (((mutL d)[k.toNat]'h.2).1,0) else (zD,12)) else (zD,d.err)
theorem zD_new (W:World) (B:Nat):NewA W B zD zA none none where
 ne:=fun k h=>by simp at h
 ins:=⟨Nat.le_refl _,by simp[zD],Or.inl rfl⟩
 outs:=⟨Nat.le_refl _,by simp[zD],Or.inl rfl⟩
 wires:=⟨by simp[zD],Nat.le_refl _,Nat.zero_le _,Or.inl ⟨rfl,rfl⟩⟩
 regs:=⟨by simp[zD],Nat.le_refl _,Nat.zero_le _,Or.inl ⟨rfl,rfl⟩⟩
def MtPost (w:World) (d:DesD) (k:Int) (r:Ending) (w':World):Prop:=(∃ x bw br,r=.returned (.tuple #[desVal (mutAt d k).1 x,.int .i64 (mutAt d k).2])∧NewA w' w.heap.size (mutAt d k).1 x bw br)∧Below w.heap.size w w'
theorem mt_res (W:World) (tm:Array Value) (b:Nat) (m0 m1 m2 m3 m4 e:Value) (hW:W.heap[b]? = some (.cells #[m0,m1,m2,m3,m4] 27 (0,0))) (h0:tm.getD 4 undef=.pointer (some ⟨b,0,none⟩)) (h1:tm.getD 5 undef=e) :
  (results Tryz.f31 tm).run Tryz.prog W=.ok (.tuple #[.agg #[m0,m1,m2,m3,m4],e]) W:=by
 have hr : Tryz.f31.results=#[.cell 4 27,.tmp 5]:=rfl
 have c0:=cell_of_blk hW 0
 have c1:=cell_of_blk hW 1
 have c2:=cell_of_blk hW 2
 have c3:=cell_of_blk hW 3
 have c4:=cell_of_blk hW 4
 simp at c0 c1 c2 c3 c4
 rw[results_cell_tmp hr,h0,h1]
 simp[asAddr]
 go_simp
theorem low5 {W:World} {B:Nat} {d:DesD} {x:DesA} {bw br:Option Nat} (h:NewA W B d x bw br) {k:Nat} {u0 u1 u2 u3 u4:Value} (hk:k < B):NewA (((((W.setCell ⟨k,0,none⟩ u0).setCell ⟨k,1,none⟩ u1).setCell ⟨k,2,none⟩ u2).setCell ⟨k,3,none⟩ u3).setCell ⟨k,4,none⟩ u4) B d x bw br :=
 ((((h.low hk).low hk).low hk).low hk).low hk
theorem bel5 {w0 w:World} {B b:Nat} {u0 u1 u2 u3 u4:Value} (h:Below B w0 w) (hb:B≤b):Below B w0 (((((w.setCell ⟨b,0,none⟩ u0).setCell ⟨b,1,none⟩ u1).setCell ⟨b,2,none⟩ u2).setCell ⟨b,3,none⟩ u3).setCell ⟨b,4,none⟩ u4) :=
 ((((h.setCell hb _).setCell hb _).setCell hb _).setCell hb _).setCell hb _
set_option maxHeartbeats 8000000 in
set_option maxRecDepth 100000 in
theorem mutant_any (d:DesD) (x:DesA) (k:Int) (w:World) (hF:∀ n:Int,0≤n→n≤65535→∀ W,Below w.heap.size w W→FmtC W.heap.size W n) (hG:Glob w) (hE:DesIn w d x) (hs:DesSmall d) :
  Calls Tryz.prog 31 #[desVal d x,.int .i64 k] w (MtPost w d k):=by
 have HM:Hid (∀ W,Below w.heap.size w W→Calls Tryz.prog 60 #[desVal d x] W fun r w'=>(∃ a c L b,r=.returned (.tuple #[.slice a L.length c,.int .i64 d.err])∧MutsIn b w' L a c∧L.map mutOf=mutsS d∧W.heap.size≤b∧(L.length=0∨∃ k,a=some ⟨k,0,none⟩))∧Below W.heap.size W w'):=fun W hW=>muts_out (w:=w) (mutants_any d x W (fun n h0 h1=>hF n h0 h1 W hW) (hG.below hW) (hE.below hW) hs)
 have hml:=mutsS_len d
 have HPz:Hid (∀ e W,mutAt d k=(zD,e)→Below w.heap.size w W→MtPost w d k (.returned (.tuple #[.agg #[.string ⟨#[]⟩,.slice none 0 0,.slice none 0 0,.slice none 0 0,.slice none 0 0],.int .i64 e])) W):=fun e W h1 h2=>by
  refine⟨⟨zA,none,none,?_,?_⟩,h2⟩
  ·rw[h1];rfl
  ·rw[h1];exact zD_new W _
 have HPm:Hid (∀ dm xm bw br W,mutAt d k=(dm,0)→NewA W w.heap.size dm xm bw br→Below w.heap.size w W→MtPost w d k (.returned (.tuple #[.agg #[.string dm.name,.slice xm.ai dm.inputs.length xm.ci,.slice xm.aw dm.wires.length xm.cw,.slice xm.ar dm.regs.length xm.cr,.slice xm.ao dm.outputs.length xm.co],.int .i64 0])) W):=fun dm xm bw br W h1 h2 h3=>by
  refine⟨⟨xm,bw,br,?_,?_⟩,h3⟩
  ·rw[h1];rfl
  ·rw[h1];exact h2
 have HA1:Hid (¬ d.err=0→mutAt d k=(zD,d.err)):=fun h=>if_neg h
 have HA2:Hid (d.err=0→¬ (0≤k∧k.toNat < (mutsS d).length)→mutAt d k=(zD,12)):=fun h h2=>by
  unfold mutAt
  rw[if_pos h,dif_neg (by unfold mutsS at h2;rw[if_pos h] at h2;exact h2)]
 have HA3:Hid (d.err=0→∀ (j:Nat) m,k=j→(mutsS d)[j]? = some m→mutAt d k=(m.1,0)):=fun h j m hk hm=>by
  subst hk
  unfold mutsS at hm
  rw[if_pos h] at hm
  obtain⟨hj,rfl⟩:=List.getElem?_eq_some_iff.1 hm
  unfold mutAt
  rw[if_pos h,dif_pos ⟨by omega,by simpa using hj⟩]
  simp
 clear hF hG hE hs
 generalize mutsS d=MS at HM hml HA2 HA3
 generalize mutAt d k=MT at HPz HPm HA1 HA2 HA3
 generalize MtPost w d k=Po at HPz HPm⊢
 simp only[desVal,desVals] at HM⊢
 go_enter Tryz.func31, Tryz.ntmps31
 go_wp2_with fail
 generalize hW2:(w.alloc (.cells #[.string d.name,.slice x.ai d.inputs.length x.ci,.slice x.aw d.wires.length x.cw,.slice x.ar d.regs.length x.cr,.slice x.ao d.outputs.length x.co] 27)).alloc (.cells #[.string ⟨#[]⟩,.slice none 0 0,.slice none 0 0,.slice none 0 0,.slice none 0 0] 27)=W2
 have hz2:w.heap.size+2≤W2.heap.size:=by rw[← hW2];simp
 have HB2:Hid (Below w.heap.size w W2):=by show Below _ _ _;rw[← hW2];exact belr
 have HR2:Hid (W2.heap[w.heap.size+1]? = some (.cells #[.string ⟨#[]⟩,.slice none 0 0,.slice none 0 0,.slice none 0 0,.slice none 0 0] 27 (0,0))):=by
  show _=_;rw[← hW2]
  exact hx_new (by simp)
 clear hW2
 refine(HM.out W2 HB2.out).mono ?_
 rintro r w3 ⟨⟨a,c,L,b,rfl,hI,hm,hbb,hs⟩,hb3⟩
 have HBf:Hid (Below w.heap.size w w3):=HB2.out.trans (hb3.mono (by omega))
 have hLl:L.length≤20000:=by have h1:=congrArg List.length hm;simp at h1;omega
 have HR3:Hid (w3.heap[w.heap.size+1]? = some (.cells #[.string ⟨#[]⟩,.slice none 0 0,.slice none 0 0,.slice none 0 0,.slice none 0 0] 27 (0,0))):=hx_below hb3 HR2.out
 have HI:=Lib.hid hI
 have Hm:=Lib.hid hm
 have HS:=Lib.hid hs
 have hcap:=hI.1
 clear hI hm hb3 hs
 obtain⟨y0,y1,y2,y3,y4,yf⟩:=cell5 HR3.out
 by_cases he:d.err=0
 ·by_cases hk:0≤k∧k.toNat < L.length
  ·obtain⟨j,rfl⟩:=Int.eq_ofNat_of_zero_le hk.1
   have hj:j < L.length:=by have:=hk.2;simpa using this
   have hji:(j:Int) < L.length:=by omega
   have hci:(L.length:Int)≤c:=by omega
   obtain⟨bb,rfl⟩:=HS.out.resolve_left (by omega)
   obtain⟨hcs,hmp⟩:=HI.out.get rfl hj
   have hAt:=HA3.out he j (mutOf (L[j]'hj)) rfl (by rw[← Hm.out,List.getElem?_map,List.getElem?_eq_getElem hj];rfl)
   generalize (L[j]'hj)=m at hcs hmp hAt
   obtain⟨dm,xm,tm⟩:=m
   have q0:=hcs 0 _ rfl
   have q1:=hcs 1 _ rfl
   have q2:=hcs 2 _ rfl
   have q3:=hcs 3 _ rfl
   have q4:=hcs 4 _ rfl
   simp only[Nat.zero_add,Nat.add_zero] at q0 q1 q2 q3 q4
   have hmt:MT=(dm,0):=hAt
   have HMt:=Lib.hid hmt
   have Hmp:=Lib.hid hmp
   rw[he]
   clear he hk hcs hmp hAt hmt
   go_wp2_with fail
   refine bodyPost_ret (v:=.tuple #[.agg #[.string dm.name,.slice xm.ai dm.inputs.length xm.ci,.slice xm.aw dm.wires.length xm.cw,.slice xm.ar dm.regs.length xm.cr,.slice xm.ao dm.outputs.length xm.co],.int .i64 0]) (mt_res _ _ (w.heap.size+1) _ _ _ _ _ _ (set5M HR3.out) rfl rfl) rfl ?_
   obtain⟨bw,br,hN⟩:=Hmp.out
   exact HPm.out dm xm bw br _ HMt.out (NewD.mono (low5 hN (by omega)) (by omega)) (bel5 HBf.out (by omega))
  ·have HMt:=Lib.hid (HA2.out he (by rw[← Hm.out,List.length_map];exact hk))
   have Hend:Hid (∀ W,W.heap[w.heap.size+1]? = some (.cells #[.string ⟨#[]⟩,.slice none 0 0,.slice none 0 0,.slice none 0 0,.slice none 0 0] 27 (0,0))→Below w.heap.size w W→Po (.returned (.tuple #[.agg #[.string ⟨#[]⟩,.slice none 0 0,.slice none 0 0,.slice none 0 0,.slice none 0 0],.int .i64 12])) W):=fun W _ h=>HPz.out 12 W HMt.out h
   rw[he]
   clear he
   by_cases h0:k < 0
   ·go_wp2_with fail
    exact bodyPost_ret (v:=.tuple #[.agg #[.string ⟨#[]⟩,.slice none 0 0,.slice none 0 0,.slice none 0 0,.slice none 0 0],.int .i64 12]) (mt_res _ _ (w.heap.size+1) _ _ _ _ _ _ (set5M HR3.out) rfl rfl) rfl (HPz.out 12 _ HMt.out (bel5 HBf.out (by omega)))
   ·have h1:(L.length:Int)≤k:=by
     rcases Int.lt_or_le k L.length with h | h
     ·exact absurd ⟨by omega,by omega⟩ hk
     ·exact h
    clear hk
    go_wp2_with fail
    exact bodyPost_ret (v:=.tuple #[.agg #[.string ⟨#[]⟩,.slice none 0 0,.slice none 0 0,.slice none 0 0,.slice none 0 0],.int .i64 12]) (mt_res _ _ (w.heap.size+1) _ _ _ _ _ _ (set5M HR3.out) rfl rfl) rfl (HPz.out 12 _ HMt.out (bel5 HBf.out (by omega)))
 ·have HMt:=Lib.hid (HA1.out he)
  have hee:(d.err != 0)=true:=by simpa using he
  clear he
  go_wp2_with fail
  exact bodyPost_ret (v:=.tuple #[.agg #[.string ⟨#[]⟩,.slice none 0 0,.slice none 0 0,.slice none 0 0,.slice none 0 0],.int .i64 d.err]) (mt_res _ _ (w.heap.size+1) _ _ _ _ _ _ (set5M HR3.out) rfl rfl) rfl (HPz.out d.err _ HMt.out (bel5 HBf.out (by omega)))
end Go.Proofs.YtebneadheaefdaaGreatDoor
namespace Go.Proofs.YtebneadheaefdaaGreatDoor
open Go.RowKit
attribute [local go_sem ↓] Go.wp_at_zero Go.wp_at_succ
def SisIn (H:World) (L:List SA) (a:Option Addr) (cap:Nat):Prop:=SliceIn 6 L.length a cap (fun i b o=>∃ s,L[i]? = some s∧(∀ j u,(siteCells s)[j]? = some u→H.cell? ⟨b,o+j,none⟩=some u)∧DesIn H s.2.1 s.2.2)
theorem SisIn.get {H:World} {L:List SA} {a:Option Addr} {cap:Nat} (h:SisIn H L a cap) {b off:Nat} (ha:a=some ⟨b,off,none⟩) {i:Nat} (hi:i < L.length) :
  (∀ j u,(siteCells (L[i]'hi))[j]? = some u→H.cell? ⟨b,off+i * 6+j,none⟩=some u)∧DesIn H (L[i]'hi).2.1 (L[i]'hi).2.2:=by
 rcases h.2.2 with h | ⟨b',off',ha',hq⟩
 ·omega
 ·rw[ha] at ha'
  simp only[Option.some.injEq,Addr.mk.injEq,and_true] at ha'
  obtain⟨rfl,rfl⟩:=ha'
  obtain⟨x,hx,h1,h2⟩:=hq i hi
  rw[List.getElem?_eq_getElem hi] at hx
  obtain rfl:=Option.some.inj hx
  exact⟨h1,h2⟩
theorem OwnR.sites {w:World} {B:Nat} {p:Nat→Bool} {v:Value} {L:List SA} (h:OwnSi w B p v L) (hn:L.length≤1073741824) (hp:∀ k,p k=true→k < B):∃ a cap,v=.slice a L.length cap∧SisIn (World.hide w p) L a cap∧(L.length=0∨∃ b,a=some ⟨b,0,none⟩):=by
 obtain⟨a,cap,rfl,hc,hb,hs⟩:=h.slice hn
 refine⟨a,cap,rfl,⟨hc,hn,hs.imp id ?_⟩,hs.imp id fun ⟨b,h1,_⟩=>⟨b,h1⟩⟩
 rintro ⟨b,rfl,hB,hv⟩
 refine⟨b,0,rfl,fun i hi=>?_⟩
 rw[Nat.zero_add]
 have hm:=h.mem _ (List.getElem_mem hi)
 unfold siteP at hm
 rw[hide_hide] at hm
 refine⟨L[i]'hi,List.getElem?_eq_getElem hi,fun j u hu=>?_,hm.keep (hk_mono fun k hk=>by rw[Bool.or_eq_true];exact Or.inr hk).cell⟩
 have hj:j < 6:=(List.getElem?_eq_some_iff.1 hu).1
 have hpb:p b=false:=by
  cases e:p b with
  | false=>rfl
  | true=>have:=hp b e;omega
 exact cell_hide.2 ⟨hpb,(h.cellsAt (fun _=>rfl) rfl hi hj).trans hu⟩
end Go.Proofs.YtebneadheaefdaaGreatDoor
