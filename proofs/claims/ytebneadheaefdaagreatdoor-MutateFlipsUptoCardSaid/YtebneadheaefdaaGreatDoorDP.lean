/- sim: step (the registers' next values). -/
import Derived.Test.YtebneadheaefdaaGreatDoorDO
set_option linter.unusedSimpArgs false
set_option linter.unusedVariables false
set_option linter.unnecessarySimpa false
namespace Go.Proofs.YtebneadheaefdaaGreatDoor
open Go.RowKit
attribute [local go_sem ↓] Go.wp_at_zero Go.wp_at_succ
theorem nextS_len (d:DesD) (env:Sigs):(nextS d env).length=d.regs.length:=by simp[nextS]
theorem nextS_take (d:DesD) (env:Sigs) (k:Nat) (h:k < d.regs.length):((nextS d env).map (Value.int .i64)).take (k+1)=((nextS d env).map (Value.int .i64)).take k++[.int .i64 (cutW (evalS env (d.regs[k]'h).next).1 (d.regs[k]'h).width)]:=by
 refine take_at ?_
 unfold nextS
 simp[h]
set_option maxRecDepth 100000 in
set_option maxHeartbeats 8000000 in
theorem step_any (d:DesD) (x:DesA) (OD:List Nat) (aO:Option Addr) (cO:Nat) (env:Sigs) (aI:Option Addr) (cI:Nat) (w:World)
  (hE:DesIn w d x) (hs:DesSmall d) (hok:DesOk d) (hn:env.map (·.1)=d.names) (hI:SigsIn w env aI cI) (hG:Glob w) :
  Calls Tryz.prog 49 #[machVal d x OD.length aO cO,.slice aI env.length cI] w fun e w'=>(∃ a cap,e=.returned (.tuple #[.slice a (nextS d env).length cap,.int .i64 0])∧IntsIn w' (nextS d env) a cap)∧Below w.heap.size w w':=by
 have HR:=Lib.hid hE.regs
 have HRA:=Lib.hid hE.regs.addr
 have hrl:=hE.regs.2.1
 have HEv:Hid (∀ k (hk:k < d.regs.length) ae ce W,Below w.heap.size w W→ExIn W (d.regs[k]'hk).next ae ce→Calls Tryz.prog 98 #[.agg #[.int .i64 (d.regs[k]'hk).next.op,.int .i64 (d.regs[k]'hk).next.n,.string (d.regs[k]'hk).next.name,.slice ae (d.regs[k]'hk).next.args.length ce],.slice aI env.length cI] W fun e w'=>e=.returned (.tuple #[.int .i64 (evalS env (d.regs[k]'hk).next).1,.int .i64 0])∧Below W.heap.size W w'):=fun k hk ae ce W hW hX=>by
  have h1:=hs.exprs _ (reg_expr hk)
  have h2:=eval_ok hok hn (reg_expr hk)
  generalize (d.regs[k]'hk).next=e at h1 h2 hX
  obtain⟨op,n,s,args⟩:=e
  have:=eval_any env aI cI op n s args ae ce W (hG.below hW) (hI.keep (keeps_of_below hW)) hX (by omega)
  rw[h2] at this
  exact this
 have HCu:Hid (∀ k (hk:k < d.regs.length) z W,Calls Tryz.prog 99 #[.int .i64 z,.int .i64 (d.regs[k]'hk).width] W fun e w'=>e=.returned (.int .i64 (cutW z (d.regs[k]'hk).width))∧W=w'):=fun k hk z W=>by
  obtain⟨h1,h2⟩:=reg_width hok (List.getElem_mem hk)
  generalize (d.regs[k]'hk).width=wd at h1 h2
  obtain⟨q,rfl⟩:=Int.eq_ofNat_of_zero_le (show 0≤wd by omega)
  exact cut_any z q (by omega) W
 have HS:=Lib.hid (nextS_take d env)
 have HNl:=Lib.hid (nextS_len d env)
 have hlI:=hI.2.1
 simp only[machVal,machVals]
 generalize nextS d env=NX at HS HNl⊢
 have HM:Hid ((NX.map (Value.int .i64)).take d.regs.length=NX.map (Value.int .i64)):=List.take_of_length_le (by rw[List.length_map,HNl.out];omega)
 generalize hM:NX.map (Value.int .i64)=M at HS HM
 have HMe:=Lib.hid hM
 clear hM hE hs hok hn hI hG
 obtain⟨nm,ins,wires,regs,outs⟩:=d
 obtain⟨ai,ci,aw,cw,ar,cr,ao,co⟩:=x
 simp only at HR HRA hrl HEv HCu HS HNl HM⊢
 have HB0:Hid (Below (w.heap.size+1) (w.alloc (.cells #[.string nm,.slice ai ins.length ci,.slice aw wires.length cw,.slice ar regs.length cr,.slice ao outs.length co,.slice aO OD.length cO] 81)) (w.alloc (.cells #[.string nm,.slice ai ins.length ci,.slice aw wires.length cw,.slice ar regs.length cr,.slice ao outs.length co,.slice aO OD.length cO] 81))):=Below.refl _ _
 go_enter Tryz.func49, Tryz.ntmps49
 go_wp2_with fail
 go_loopw [15,6,8,9,10] (fun i v _ _ _ wr=>∃ k:Nat,i=.int .i64 k∧k≤regs.length∧Hid (wr.ownsRow (w.heap.size+1) 3 1 v k (M.take k))∧Hid (Below (w.heap.size+1) (w.alloc (.cells #[.string nm,.slice ai ins.length ci,.slice aw wires.length cw,.slice ar regs.length cr,.slice ao outs.length co,.slice aO OD.length cO] 81)) wr)) (fun i _ _ _ _ _=>regs.length - (intOf i).toNat)
 case atStart=>exact⟨0,rfl,Nat.zero_le _,World.ownsRow_nil _ _ _ _,HB0⟩
 case round =>
  obtain⟨k,rfl,hk,HO,HB⟩:=hrel
  have HBw:=Lib.hid (boxW _ HB.out)
  have hzr:=HB.out.size
  simp only[World.size_alloc] at hzr
  by_cases hlt:k < regs.length
  ·obtain⟨b,off,ha⟩:=HRA.out.resolve_left (by omega)
   subst ha
   obtain⟨ae,ce,c0,c1,c2,c3,c4,c5,c6,hX⟩:=(HR.out.keep (keeps_of_below HBw.out)).get rfl hlt
   have HSk:=Lib.hid (HS.out k hlt)
   have HEk:=Lib.hid (HEv.out k hlt ae ce)
   have HCk:=Lib.hid (HCu.out k hlt)
   generalize (regs[k]'hlt)=e at c0 c1 c2 c3 c4 c5 c6 hX HSk HEk HCk
   generalize (evalS env e.next).1=z at HSk HEk
   generalize hcv:cutW z e.width=cv at HSk
   have HCz:=Lib.hid (HCk.out z)
   rw[hcv] at HCz
   clear hcv
   have hkn:k≤1073741824:=by omega
   have hbA:Below wr.heap.size wr (wr.alloc (.cells #[.string e.name,.int .i64 e.width,.int .i64 e.init,.int .i64 e.next.op,.int .i64 e.next.n,.string e.next.name,.slice ae e.next.args.length ce] 76)):=(Below.refl _ _).alloc (Nat.le_refl _) _
   have HbA:=Lib.hid hbA
   have HE1:=Lib.hid (HEk.out _ (HBw.out.trans (hbA.mono HBw.out.size)) (hX.keep (keeps_of_below hbA)))
   have hx1:(wr.alloc (.cells #[.string e.name,.int .i64 e.width,.int .i64 e.init,.int .i64 e.next.op,.int .i64 e.next.n,.string e.next.name,.slice ae e.next.args.length ce] 76)).heap[wr.heap.size]? = some (.cells #[.string e.name,.int .i64 e.width,.int .i64 e.init,.int .i64 e.next.op,.int .i64 e.next.n,.string e.next.name,.slice ae e.next.args.length ce] 76 (0,0)):=heap_alloc_at _ _ _ rfl
   have HX1:=Lib.hid hx1
   have HOA:=Lib.hid (HO.out.alloc (.cells #[.string e.name,.int .i64 e.width,.int .i64 e.init,.int .i64 e.next.op,.int .i64 e.next.n,.string e.next.name,.slice ae e.next.args.length ce] 76))
   obtain⟨va,vc,hv,_⟩:=slice_of_own HO.out hkn
   subst hv
   clear hbA hX hx1
   go_wp2_with fail
   refine HE1.out.mono ?_
   rintro r w5 ⟨rfl,hb5⟩
   have HB5:Hid (Below (w.heap.size+1) (w.alloc (.cells #[.string nm,.slice ai ins.length ci,.slice aw wires.length cw,.slice (some ⟨b,off,none⟩) regs.length cr,.slice ao outs.length co,.slice aO OD.length cO] 81)) w5):=HB.out.trans ((HbA.out.trans (hb5.mono HbA.out.size)).mono hzr)
   have HO5:=Lib.hid (ownsRow_below HOA.out hb5)
   have h5:=(hb5.block wr.heap.size (by simp)).trans HX1.out
   have p1:w5.cell? ⟨wr.heap.size,1,none⟩=some (.int .i64 e.width):=by simp[World.cell?,h5]
   have hz5:=HB5.out.size
   simp only[World.size_alloc] at hz5
   clear hb5 h5 c0 c1 c2 c3 c4 c5 c6
   go_wp2_with (first | (at_builtin;go_must (refine own_app elemI _ rfl (.tmp 29) (.tmp 34) rfl (w.heap.size+1) (.slice va k vc) k (M.take k) rfl HO5.out [.int .i64 cv] rfl (by simp[Value.oneCell']) _ 1 rfl (by first | rfl | simp) hkn sz ?_)) | (go_at_call 99;(with_reducible refine(HCz.out _).mono ?_);rintro r w' ⟨rfl,rfl⟩))
   intro v' w3 ho hg
   have HO1:=Lib.hid ho
   have HB3:Hid (Below (w.heap.size+1) (w.alloc (.cells #[.string nm,.slice ai ins.length ci,.slice aw wires.length cw,.slice (some ⟨b,off,none⟩) regs.length cr,.slice ao outs.length co,.slice aO OD.length cO] 81)) w3):=Below.grown (by repeat (first | exact HB5.out | refine Below.alloc ?_ sz _)) hg sz (fun j hj=>(HO5.out.lt j hj).1)
   clear ho hg p1
   go_wp2_with fail
   go_roundw
   case rel=>exact⟨k+1,by go_num,by omega,(by show World.ownsRow _ _ _ _ _ _ _;rw[HSk.out];exact HO1.out),HB3⟩
   case measure=>(simp[intOf];try omega)
  ·obtain rfl:k=regs.length:=by omega
   have ho:=HO.out
   rw[HM.out,← HMe.out,← HNl.out] at ho
   obtain⟨a',cap',hv,hs⟩:=ints_of_own ho (by rw[HNl.out];exact hrl)
   rw[HNl.out] at hv
   subst hv
   have HF:=Lib.hid hs
   clear ho hs
   go_wp2_with fail
   go_ret2
   rw[HNl.out]
   exact⟨⟨_,_,rfl,HF.out⟩,HBw.out⟩
end Go.Proofs.YtebneadheaefdaaGreatDoor
namespace Go.Proofs.YtebneadheaefdaaGreatDoor
open Go.RowKit
attribute [local go_sem ↓] Go.wp_at_zero Go.wp_at_succ
def SettlePost (w:World) (d:DesD) (l:List Int) (inp:Sigs) (e:Ending) (w':World):Prop :=
  ((d.err=0∧d.stateB l=true∧∃ a cap,e=.returned (.tuple #[.slice a (settleS d l inp).length cap,.int .i64 0])∧SigsIn w' (settleS d l inp) a cap) ∨
   (¬ d.err=0∧e=.returned (.tuple #[.slice none 0 0,.int .i64 d.err])) ∨
   (d.err=0∧d.stateB l=false∧e=.returned (.tuple #[.slice none 0 0,.int .i64 1])))∧Below w.heap.size w w'
def StepPost (w:World) (d:DesD) (l:List Int) (inp:Sigs) (e:Ending) (w':World):Prop :=
  ((d.err=0∧d.stateB l=true∧∃ a1 c1 a2 c2,e=.returned (.tuple #[.slice a1 (nextS d (settleS d l inp)).length c1,.slice a2 (settleS d l inp).length c2,.int .i64 0])∧IntsIn w' (nextS d (settleS d l inp)) a1 c1∧SigsIn w' (settleS d l inp) a2 c2) ∨
   (¬ d.err=0∧e=.returned (.tuple #[.slice none 0 0,.slice none 0 0,.int .i64 d.err])) ∨
   (d.err=0∧d.stateB l=false∧e=.returned (.tuple #[.slice none 0 0,.slice none 0 0,.int .i64 1])))∧Below w.heap.size w w'
theorem mach_cells {w':World} {b:Nat} {m0 m1 m2 m3 m4 m5:Value} {t:TypeId} (h:w'.heap[b]? = some (.cells #[m0,m1,m2,m3,m4,m5] t (0,0))) :
  w'.cell? ⟨b,0,none⟩=some m0∧w'.cell? ⟨b,1,none⟩=some m1∧w'.cell? ⟨b,2,none⟩=some m2∧w'.cell? ⟨b,3,none⟩=some m3∧w'.cell? ⟨b,4,none⟩=some m4∧w'.cell? ⟨b,5,none⟩=some m5:=by
 have c0:=cell_of_blk h 0
 have c1:=cell_of_blk h 1
 have c2:=cell_of_blk h 2
 have c3:=cell_of_blk h 3
 have c4:=cell_of_blk h 4
 have c5:=cell_of_blk h 5
 simp at c0 c1 c2 c3 c4 c5
 exact⟨c0,c1,c2,c3,c4,c5⟩
end Go.Proofs.YtebneadheaefdaaGreatDoor
