/- The values of a cycle fit into the widths of their signals, plain; runs begin alike. -/
import Derived.Test.YtebneadheaefdaaGreatDoorDB
set_option linter.unusedSimpArgs false
set_option linter.unusedVariables false
set_option linter.unnecessarySimpa false
namespace Go.Proofs.YtebneadheaefdaaGreatDoor
def FitsAll (ws:List Int) (env:Sigs):Prop:=env.length=ws.length∧∀ i (h:i < env.length) (h':i < ws.length),1≤ws[i]'h'∧ws[i]'h'≤16∧0≤(env[i]'h).2∧(env[i]'h).2 < 2 ^ (ws[i]'h').toNat
theorem FitsAll.set {ws:List Int} {env:Sigs} (h:FitsAll ws env) {k:Nat} {s:ByteArray} {v:Int} (hv:∀ (h':k < ws.length),0≤v∧v < 2 ^ (ws[k]'h').toNat):FitsAll ws (env.set k (s,v)):=by
 refine⟨by rw[List.length_set];exact h.1,fun i hi hi'=>?_⟩
 rw[List.length_set] at hi
 have h0:=h.2 i hi hi'
 rw[List.getElem_set]
 split
 ·rename_i e
  subst e
  exact⟨h0.1,h0.2.1,hv hi'⟩
 ·exact h0
theorem pow_pos2 (w:Int):(0:Int) < 2 ^ w.toNat:=Int.pow_pos (by decide)
theorem FitsAll.append {w1 w2:List Int} {e1 e2:Sigs} (h1:FitsAll w1 e1) (h2:FitsAll w2 e2):FitsAll (w1++w2) (e1++e2):=by
 refine⟨by rw[List.length_append,List.length_append,h1.1,h2.1],fun i hi hi'=>?_⟩
 by_cases hlt:i < e1.length
 ·rw[List.getElem_append_left hlt,List.getElem_append_left (by rw[← h1.1];exact hlt)]
  exact h1.2 i hlt (by rw[← h1.1];exact hlt)
 ·have hw:w1.length≤i:=by rw[← h1.1];omega
  have e:i - e1.length=i - w1.length:=by rw[h1.1]
  have hl2:i - e1.length < e2.length:=by rw[List.length_append] at hi;omega
  have hl3:i - e1.length < w2.length:=by rw[← h2.1];exact hl2
  have hl4:i - w1.length < w2.length:=by rw[← e];exact hl3
  have g1:(e1++e2)[i]'hi=e2[i - e1.length]'hl2:=List.getElem_append_right (by omega)
  have g2:(w1++w2)[i]'hi'=w2[i - e1.length]'hl3:=by
   rw[List.getElem_append_right hw]
   simp only[e]
  rw[g1,g2]
  exact h2.2 (i - e1.length) hl2 hl3
theorem fits_map {α:Type} (l:List α) (f:α→ByteArray × Int) (g:α→Int) (h:∀ a∈l,1≤g a∧g a≤16∧0≤(f a).2∧(f a).2 < 2 ^ (g a).toNat):FitsAll (l.map g) (l.map f):=by
 refine⟨by simp,fun i hi hi'=>?_⟩
 simp only[List.getElem_map]
 exact h _ (List.getElem_mem _)
theorem inputV_fits {d:DesD} (hd:DesOk d) {p:PortD} (hp:p∈d.inputs) (inp:Sigs):0≤inputV p inp∧inputV p inp < 2 ^ p.width.toNat:=by
 unfold inputV
 split
 ·exact⟨cutW_lo _ _,cutW_hi _ _⟩
 ·exact⟨Int.le_refl _,pow_pos2 _⟩
theorem start_fits {d:DesD} {st:List Int} (inp:Sigs) (hd:DesOk d) (h:d.stateB st=true):FitsAll d.widths (startS d st inp):=by
 obtain⟨hl,hst⟩:=stateB_iff.1 h
 unfold startS DesD.widths
 refine FitsAll.append (FitsAll.append ?_ ?_) ?_
 ·exact fits_map _ _ _ fun p hp=>⟨(input_width hd hp).1,(input_width hd hp).2,inputV_fits hd hp inp⟩
 ·exact fits_map _ _ _ fun p hp=>⟨(wire_width hd hp).1,(wire_width hd hp).2,Int.le_refl _,pow_pos2 _⟩
 ·unfold DesD.sts
  refine⟨by simp[hl],fun i hi hi'=>?_⟩
  have h1:i < d.regs.length:=by simpa using hi'
  have:=hst i h1 (by omega)
  simp only[List.getElem_zipWith,List.getElem_map]
  exact this
theorem settle_fits {d:DesD} {st:List Int} (inp:Sigs) (hd:DesOk d) (h:d.stateB st=true):FitsAll d.widths (settleS d st inp):=by
 unfold settleS
 have hlt:=order_lt d
 generalize d.order=os at hlt
 have h0:=start_fits inp hd h
 generalize startS d st inp=env at h0
 unfold prgE
 induction os generalizing env with
 | nil=>exact h0
 | cons i os ih =>
  rw[List.foldl_cons]
  refine ih (fun j hj=>hlt j (List.mem_cons_of_mem _ hj)) _ (h0.set fun hk=>?_)
  have hi:=hlt i List.mem_cons_self
  rw[wireV_at hi]
  have hw:d.widths[d.inputs.length+i]'hk=(d.wires[i]'hi).width:=by
   have h1:d.widths[d.inputs.length+i]? = some (d.wires[i]'hi).width:=by
    unfold DesD.widths
    rw[List.append_assoc,List.getElem?_append_right (by simp),List.getElem?_append_left (by simp;omega)]
    simp[hi]
   rw[List.getElem?_eq_getElem hk] at h1
   exact Option.some.inj h1
  rw[hw]
  exact⟨cutW_lo _ _,cutW_hi _ _⟩
end Go.Proofs.YtebneadheaefdaaGreatDoor
