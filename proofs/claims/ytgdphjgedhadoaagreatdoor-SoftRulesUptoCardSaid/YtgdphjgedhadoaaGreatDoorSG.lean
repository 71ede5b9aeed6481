/- append of expressions onto a fresh slice, in a drawn region. -/
import Derived.Test.YtgdphjgedhadoaaGreatDoorSD
import Derived.Test.YtgdphjgedhadoaaGreatDoorSF
import Derived.Test.YtgdphjgedhadoaaGreatDoorSE
import Derived.Deep.RegionHeld3
import Derived.Deep.CutRange
set_option linter.unusedSimpArgs false
set_option linter.unusedVariables false
set_option linter.unnecessarySimpa false
namespace Go.Proofs.YtgdphjgedhadoaaGreatDoor
open Go.RowKit

/-- a slice of expressions of the call's own, or an empty literal -/
def Loose (w : World) (base : Nat) (v : Value) (n : Nat) (xs : List Value) : Prop := (xs = [] ∧ n = 0 ∧ ∃ ao, v = .slice ao 0 0) ∨ w.ownsRow base 57 4 v n xs
theorem Loose.below {w w' : World} {base : Nat} {v : Value} {n : Nat} {xs : List Value} (h : Loose w base v n xs) (hb : Below w.heap.size w w') : Loose w' base v n xs := h.imp id (fun h => ownsRow_below h hb)
theorem Loose.lit (w : World) (base : Nat) (ao : Option Addr) : Loose w base (.slice ao 0 0) 0 [] := Or.inl ⟨rfl, rfl, ao, rfl⟩
theorem Loose.ins {w : World} {base : Nat} {v : Value} {l : List Ex} {n : Nat} {xs : List Value} (h : Loose w base v n xs) (hl : n = l.length) (hr : ExRow w l xs) (hn : l.length ≤ 1073741824) : ∃ a c, v = .slice a l.length c ∧ ExsIn w l a c := by
  subst hl
  rcases h with ⟨_, h0, ao, rfl⟩ | h
  · exact ⟨ao, 0, by rw [h0], by omega, by omega, Or.inl h0⟩
  · exact exs_of_own h hr hn
theorem Loose.slice {w : World} {base : Nat} {v : Value} {n : Nat} {xs : List Value} (h : Loose w base v n xs) (hn : n ≤ 1073741824) : ∃ a c, v = .slice a n c := by
  rcases h with ⟨_, h0, ao, rfl⟩ | h
  · exact ⟨ao, 0, by rw [h0]⟩
  · obtain ⟨a, c, hv, _⟩ := slice_of_own h hn
    exact ⟨a, c, hv⟩
theorem exRow_one {w : World} {l : List Ex} {xs : List Value} (h : ExRow w l xs) : ∀ u, u ∈ xs → u.oneCell' = true := by
  intro u hu
  obtain ⟨j, hj, rfl⟩ := List.getElem_of_mem hu
  have hl := h.1
  have hi : j / 4 < l.length := by omega
  obtain ⟨a, c, h0, h1, h2, h3, _⟩ := h.2 (j / 4) hi
  have hm : j % 4 < 4 := Nat.mod_lt _ (by omega)
  have hx : xs[j]? = some (xs[j]'hj) := List.getElem?_eq_getElem hj
  rcases Nat.lt_or_ge (j % 4) 1 with h4 | h4
  · rw [show j / 4 * 4 = j from by omega, hx] at h0
    rw [Option.some.inj h0]; rfl
  · rcases Nat.lt_or_ge (j % 4) 2 with h5 | h5
    · rw [show j / 4 * 4 + 1 = j from by omega, hx] at h1
      rw [Option.some.inj h1]; rfl
    · rcases Nat.lt_or_ge (j % 4) 3 with h6 | h6
      · rw [show j / 4 * 4 + 2 = j from by omega, hx] at h2
        rw [Option.some.inj h2]; rfl
      · rw [show j / 4 * 4 + 3 = j from by omega, hx] at h3
        rw [Option.some.inj h3]; rfl
theorem run_append_zero {P : Program} (w : World) (base : Nat) (t ty : TypeId) (i : TypeInfo) (ht : P.underlying t = some (.slice 57)) (hi : P.info? 57 = some i)
    (v : Value) (n c : Nat) (ao : Option Addr) (xs : List Value) (hown : Loose w base v n xs) :
    (Builtin.append_ #[t, t] ty #[v, .slice ao 0 c]).run P w = .ok v w := by
  have hv : ∃ bo k, v = .slice bo n k ∧ n ≤ k ∧ (bo = none → n = 0 ∧ k = 0) := by
    rcases hown with ⟨_, rfl, bo, rfl⟩ | hown
    · exact ⟨bo, 0, rfl, Nat.le_refl _, fun _ => ⟨rfl, rfl⟩⟩
    · rcases hown.2 with ⟨rfl, rfl⟩ | ⟨g, cap, cur, rfl, _, _, hnc, _⟩
      · exact ⟨none, 0, rfl, Nat.le_refl _, fun _ => ⟨rfl, rfl⟩⟩
      · exact ⟨_, cap, rfl, hnc, fun h => by cases h⟩
  obtain ⟨bo, k, rfl, hk, hb⟩ := hv
  cases bo with
  | none =>
    obtain ⟨rfl, rfl⟩ := hb rfl
    cases ao <;> simp [Builtin.append_, run_underlying ht, sizeOf, typeInfo, hi, Builtin.lenOf, Builtin.firstCells, loadCells, loadCellsFrom, Result.andThen]
  | some b =>
    cases ao <;> simp [Builtin.append_, run_underlying ht, sizeOf, typeInfo, hi, Builtin.lenOf, Builtin.firstCells, hk, storeCells, loadCells, loadCellsFrom, Result.andThen]
/-- append of cells that lie in memory onto such a slice, as a step of a drawn region -/
theorem step_exs {w : World} {ops : Array Oper} {o : Oper} {a : Act} {K : Act → World → Prop} {Q : Exit → Act → World → Prop} {E : Prop} (hgd : o.guard = none) (s x : Operand)
    (ho : o.op = .call { callee := .builtin .append, args := #[s, x], argTypes := #[23, 23] })
    (base : Nat) (v : Value) (n : Nat) (xs : List Value) (hs : a.eval s = v) (hown : Loose w base v n xs) (ys : List Value) (m : Nat) (al : Option Addr) (cl : Nat) (hl : ys.length = m * 4) (h1 : ∀ u, u ∈ ys → u.oneCell' = true)
    (hc : m = 0 ∨ ∃ b off, al = some ⟨b, off, none⟩ ∧ ∀ j u, ys[j]? = some u → w.cell? ⟨b, off + j, none⟩ = some u)
    (hx : a.eval x = .slice al m cl) (hn : n + m ≤ 1073741824) (hbase : base ≤ w.heap.size)
    (h : ∀ v' w', Loose w' base v' (n + m) (xs ++ ys) → w.grownBy w' v.ownBlock → (∀ g, v'.ownBlock = some g → v.ownBlock = some g ∨ (w.heap.size ≤ g ∧ g < w'.heap.size)) → K (a.put o.dst v') w') :
    if Region.wanted o (yielded ops a.tmps) = true then Oper.wp Tryz.prog o a w K Q else E := by
  obtain ⟨ht, i, z, bytes, hi, hz, hsz, hby, hzs, h0, hb⟩ := elemEx
  have hw : Region.wanted o (yielded ops a.tmps) = true := by simp [Region.wanted, hgd]
  by_cases hm : m = 0
  · subst hm
    obtain rfl : ys = [] := List.eq_nil_of_length_eq_zero (by simpa using hl)
    have hrun := run_append_zero (P := Tryz.prog) w base 23 o.type i ht hi v n cl al xs hown
    rw [if_pos hw]
    unfold Oper.wp
    simp [execOp, ho, resolve, invoke, builtin, hs, hx, hrun, Result.andThen]
    exact h v w (by simpa using hown) (World.grownBy.refl _ _) (fun g hg => Or.inl hg)
  · obtain ⟨b, off, rfl, hcell⟩ := hc.resolve_left hm
    have hadd : ∀ j, (⟨b, off, none⟩ : Addr).add j = ⟨b, off + j, none⟩ := fun j => by unfold Addr.add; split <;> simp_all
    have hby2 : (n + m) * bytes ≤ 140737488355328 := by
      calc (n + m) * bytes ≤ 1073741824 * 1024 := Nat.mul_le_mul hn hb
        _ ≤ _ := by decide
    rcases hown with ⟨rfl, rfl, ao, rfl⟩ | hown
    · refine step_append_grows hgd s x 23 ho 57 i _ 4 bytes ht hi hz hsz hby hzs h0 ao 0 0 [] hs (fun _ => ⟨rfl, rfl⟩) rfl (fun _ _ j u hj => by simp at hj) ⟨b, off, none⟩ m cl ys hx hl (fun j u hj => by rw [hadd]; exact hcell j u hj) h1 (by omega) (by unfold maxLen; omega) hby2 ?_
      intro v' w' ho2 hg2
      refine h v' w' (Or.inr (own_base (by simpa using ho2) hbase)) ?_ (fun g hg => Or.inr (ho2.lt g hg))
      exact ⟨hg2.os, hg2.tape, hg2.output, hg2.size, fun k hk _ => hg2.block k hk (by simp)⟩
    · exact step_append_lies w hgd s x 23 ho base 57 i _ 4 bytes ht hi hz hsz hby hzs h0 v n xs hs hown ⟨b, off, none⟩ m cl ys hx hl (fun j u hj => by rw [hadd]; exact hcell j u hj) h1 (by omega) (by unfold maxLen; omega) hby2 hbase w.heap.size rfl (fun g cap w' h2 h3 h4 h5 => h _ w' (Or.inr h2) h3 (fun g' hg' => by
        have e : g = g' := by simpa [Value.ownBlock] using hg'
        subst e
        rcases h4 with h4 | h4
        · exact Or.inl h4
        · exact Or.inr ⟨by omega, h5⟩))
/-- .. of one block's cells -/
theorem cells_of_block {w : World} {k : Nat} {news : List Value} {e : TypeId} (hk : w.heap[k]? = some (.cells news.toArray e (0, 0))) : ∀ j u, news[j]? = some u → w.cell? ⟨k, 0 + j, none⟩ = some u := by
  intro j u hj
  rw [Nat.zero_add]
  simp [World.cell?, hk, hj]
/-- append of a slice that lies in memory to a row of the call's own -/
theorem own_gen {P : Program} {ops : Array Oper} {rest : List Oper} {o : Oper} {a : Act} {Q : Exit → Act → World → Prop} {t e : TypeId} {size : Nat} (he : Elem P t e size) (w : World) (hgd : o.guard = none) (s x : Operand)
    (ho : o.op = .call { callee := .builtin .append, args := #[s, x], argTypes := #[t, t] })
    (base : Nat) (v : Value) (n : Nat) (xs : List Value) (hs : a.eval s = v) (hown : w.ownsRow base e size v n xs)
    (ys : List Value) (m : Nat) (al : Option Addr) (cl : Nat) (hl : ys.length = m * size) (h1 : ∀ u, u ∈ ys → u.oneCell' = true)
    (hc : m = 0 ∨ ∃ b off, al = some ⟨b, off, none⟩ ∧ ∀ j u, ys[j]? = some u → w.cell? ⟨b, off + j, none⟩ = some u) (hx : a.eval x = .slice al m cl) (hn : n + m ≤ 4294967296) (hbase : base ≤ w.heap.size)
    (h : ∀ v' w', w'.ownsRow base e size v' (n + m) (xs ++ ys) → w.grownBy w' v.ownBlock → wpList P ops Q rest (a.put o.dst v') w') : wpList P ops Q (o :: rest) a w := by
  by_cases hm : m = 0
  · subst hm
    obtain rfl : ys = [] := List.eq_nil_of_length_eq_zero (by simpa using hl)
    obtain ⟨ht, i, z, bytes, hi, hz, hsz, hby, hzs, h0, hb⟩ := he
    cases al with
    | none =>
      refine Lib.wpList_append_run w hgd s x t t ho v (.slice none 0 cl) hs hx v w (run_append_none' w base t o.type e i size ht hi v n cl xs hown) ?_
      exact h v w (by simpa using hown) (World.grownBy.refl _ _)
    | some ad =>
      refine wpList_append_own w hgd s x t ho base e i z size bytes ht hi hz hsz hby hzs h0 v n xs hs hown ad 0 cl [] hx (by simp) (fun j u hj => by simp at hj) (fun u hu => by cases hu) (by unfold maxLen; simp at hn; omega) ?_ hbase (fun v' w' h2 h3 _ => h v' w' h2 h3)
      calc (n + 0) * bytes ≤ 4294967296 * 1024 := Nat.mul_le_mul (by simp at hn; omega) hb
        _ ≤ _ := by decide
  · obtain ⟨b, off, rfl, hcell⟩ := hc.resolve_left hm
    exact own_row he w hgd s x ho base v n xs hs hown ys b off m cl hl hcell h1 hx hn hbase h
end Go.Proofs.YtgdphjgedhadoaaGreatDoor

/- ref22: Kept, the walk. -/
namespace Go.Proofs.YtgdphjgedhadoaaGreatDoor
open Go.RowKit
attribute [local go_sem ↓] Go.wp_at_zero Go.wp_at_succ

theorem ints_cells {w : World} {l : List Int} {a : Option Addr} {cap : Nat} (h : IntsIn w l a cap) : l.length = 0 ∨ ∃ b off, a = some ⟨b, off, none⟩ ∧ ∀ j u, (l.map (Value.int .i64))[j]? = some u → w.cell? ⟨b, off + j, none⟩ = some u := by
  rcases h.2.2 with h0 | ⟨b, off, ha, hq⟩
  · exact Or.inl h0
  · refine Or.inr ⟨b, off, ha, fun j u hu => ?_⟩
    rw [List.getElem?_map, Option.map_eq_some_iff] at hu
    obtain ⟨n, hn, rfl⟩ := hu
    obtain ⟨n', hn', hc⟩ := hq j (List.getElem?_eq_some_iff.1 hn).1
    rw [hn] at hn'
    obtain rfl := Option.some.inj hn'
    simpa using hc
theorem ints_cells2 {w w' : World} {l : List Nat} {a : Option Addr} {cap : Nat} (h : IntsIn w (intsN l.reverse) a cap) (hb : Below w.heap.size w w') : l.length = 0 ∨ ∃ b off, a = some ⟨b, off, none⟩ ∧ ∀ j u, ((intsN l.reverse).map (Value.int .i64))[j]? = some u → w'.cell? ⟨b, off + j, none⟩ = some u := by
  rcases ints_cells h with h0 | ⟨b, off, ha, hq⟩
  · exact Or.inl (by simpa [intsN] using h0)
  · exact Or.inr ⟨b, off, ha, fun j u hu => keeps_of_below hb _ _ (hq j u hu)⟩
theorem ints_push {w : World} {base : Nat} {v : Value} {l : List Nat} {j : Nat} (h : w.ownsRow base 3 1 v (1 + l.length) ([.int .i64 (j : Int)] ++ (intsN l.reverse).map (Value.int .i64))) (hn : l.length ≤ 1000000) : ∃ a cap, v = .slice a (l.length + 1) cap ∧ IntsIn w (intsN (l ++ [j]).reverse) a cap := by
  have e : (intsN (l ++ [j]).reverse) = (j : Int) :: intsN l.reverse := by rw [List.reverse_append]; rfl
  have hl : ((j : Int) :: intsN l.reverse).length = 1 + l.length := by rw [List.length_cons, intsN_len, List.length_reverse]; omega
  rw [← hl] at h
  obtain ⟨a, cap, hv, hI⟩ := ints_of_own (l := (j : Int) :: intsN l.reverse) h (by omega)
  exact ⟨a, cap, by rw [hv, hl, Nat.add_comm], by rw [e]; exact hI⟩
theorem agree_grown {S : Nat → Prop} {w w' : World} {row : Option Nat} (hg : w.grownBy w' row) (hS : ∀ k, S k → k < w.heap.size → row ≠ some k) : Agree S w w' := fun p v hp hc => by
  have hlt := World.block_lt_of_cell? _ _ hc
  rw [World.cell?_of_block (hg.block p.block hlt (fun h => hS _ hp hlt h.symm))]
  exact hc
set_option maxRecDepth 100000 in
set_option maxHeartbeats 32000000 in
theorem r22Kept_any (p : ProbD) (x : ProbA) (w : World) (hE : ProbIn w p x) (hs : ProbSmall p) (hd : p.dists.length ≤ 1048576) (hh : p.hard.length ≤ 1000) (hso : p.soft.length ≤ 1000) (hsu : ProbOk p → Rok p (suppsE p)) :
    Calls Tryz.prog 33 #[probVal p x] w fun e w' => KeptRet p w e w' := by
  have HV0 := Lib.hid (fun W (hW : Below w.heap.size w W) => r14Valid_any p x W (hE.keep (keeps_of_below hW)) hs)
  have HSu0 := Lib.hid (fun (hp : ProbOk p) W (hW : Below w.heap.size w W) => (r22Support_any p x W (hE.keep (keeps_of_below hW)) hs).mono (R' := fun e w' => ∃ z a cap, z = W.heap.size ∧ e = .returned (.slice a (suppsE p).length cap) ∧ ExsOff (fun k => z ≤ k ∧ k < w'.heap.size) w' (suppsE p) a cap ∧ Below W.heap.size W w') (fun e w' ⟨l, a, cap, h1, h2, h3, _, h4⟩ => by
    obtain rfl := h3 hp
    exact ⟨_, a, cap, rfl, h1, h2.narrow (fun k h5 h6 => ⟨h5, h6⟩), h4⟩))
  by_cases hp : ProbOk p
  · have HV1 := Lib.hid (fun W hW => errT (HV0.out W hW) hp)
    have HSu := Lib.hid (HSu0.out hp)
    have HP0 := Lib.hid (fun l al cl W (hW : Below w.heap.size w W) (hL : ExsIn W l al cl) (hr : Rok p l) => possible_any p x l al cl W (hE.keep (keeps_of_below hW)) hp.vars hL (fun e he => (hr e he).2))
    have HHr : Rok p p.hard := fun e he => ⟨by obtain ⟨i, hi, rfl⟩ := List.getElem_of_mem he; exact hp.hard i hi, hs.hard e he⟩
    have HSr : Rok p p.soft := fun e he => ⟨by obtain ⟨i, hi, rfl⟩ := List.getElem_of_mem he; exact hp.soft i hi, hs.soft e he⟩
    have HBr : Rok p (p.hard ++ suppsE p) := fun e he => by
      rcases List.mem_append.1 he with h | h
      · exact HHr e h
      · exact hsu hp e h
    have HKr := Lib.hid (fun k => keepS_rok (S := solvB p.vars) HBr HSr k)
    have HRn : Hid (solvB p.vars (p.hard ++ suppsE p) = false → ∀ w', Below w.heap.size w w' → KeptRet p w (.returned (.tuple #[.slice none 0 0, .int .i64 11])) w') := fun h w' hb => by
      have h1 : keptI p = [] := by unfold keptI; rw [if_neg (fun h2 => by rw [h] at h2; simp at h2)]
      have h2 : keptErr p = 11 := by unfold keptErr; rw [if_pos (pB_true hp), if_neg (by rw [h]; simp)]
      exact ⟨none, 0, by rw [h1, h2]; rfl, by rw [h1]; exact ⟨Nat.zero_le _, by decide, Or.inl rfl⟩, hb⟩
    have HRy : Hid (solvB p.vars (p.hard ++ suppsE p) = true → ∀ w' a cap, IntsIn w' (intsN (keptN p)) a cap → Below w.heap.size w w' → KeptRet p w (.returned (.tuple #[.slice a (keptN p).length cap, .int .i64 0])) w') := fun h w' a cap hI hb => by
      have h1 : keptI p = intsN (keptN p) := by unfold keptI; rw [if_pos ⟨pB_true hp, h⟩]
      have h2 : keptErr p = 0 := by unfold keptErr; rw [if_pos (pB_true hp), if_pos h]
      exact ⟨a, cap, by rw [h1, h2]; unfold intsN; rw [List.length_map], by rw [h1]; exact hI, hb⟩
    have HBl : Hid ((p.hard ++ suppsE p).length ≤ 1049576) := by show _ ≤ _; rw [List.length_append]; unfold suppsE; rw [List.length_map]; omega
    have hsll : (suppsE p).length ≤ 1048576 := by unfold suppsE; rw [List.length_map]; exact hd
    have HKN : Hid (keptN p = (keepS (solvB p.vars) p.soft (p.hard ++ suppsE p) p.soft.length).2.reverse) := rfl
    have HRx : Hid (Rok p (p.hard ++ suppsE p)) := HBr
    have HSx : Hid (∀ i (h : i < p.soft.length), ExprOk p.vars (p.soft[i]'h) ∧ (p.soft[i]'h).nodes.length ≤ 1000000000) := fun i h => HSr _ (List.getElem_mem h)
    have HSI := Lib.hid hE.soft
    have HHI := Lib.hid hE.hard
    generalize keptN p = KN at HKN HRy
    obtain ⟨base, hbase9⟩ : ∃ b, p.hard ++ suppsE p = b := ⟨_, rfl⟩
    rw [hbase9] at HKr HRn HRy HBl HKN HRx
    have HBase := Lib.hid hbase9
    generalize suppsE p = sl at HSu HBase hsll
    clear hE hs hp hd hsu HV0 HHr HSr HBr HSu0 hbase9
    simp only [probVal_eq] at HV1 HSu HP0 ⊢
    generalize hSv : solvB p.vars = S at HP0 HKr HRn HRy HKN
    have HPr : Hid (∀ l e, Rok p l → ExprOk p.vars e ∧ e.nodes.length ≤ 1000000000 → Rok p (l ++ [e])) := fun l e h h' => h.snoc h'
    generalize hRk : Rok p = RK at HP0 HKr HRx HPr
    clear hSv hRk
    obtain ⟨vs, hard, soft, ds, gs⟩ := p
    obtain ⟨av, cv, ah, ch, ao, co, ad, cd, ag, cg⟩ := x
    simp only at HV1 HSu HP0 HKr HKN HSx HSI HHI HPr HRn HRy HBase hh hso ⊢
    have HV := Lib.hid (HV1.out (w.alloc (.cells #[.slice av vs.length cv, .slice ah hard.length ch, .slice ao soft.length co, .slice ad ds.length cd, .slice ag gs.length cg] 27)) ((Below.refl _ _).alloc (Nat.le_refl _) _))
    clear HV1
    go_enter Tryz.func33, Tryz.ntmps33
    go_wp2_with fail
    refine HV.out.mono ?_
    rintro e w1 ⟨rfl, hb1⟩
    simp only [World.size_alloc] at hb1
    have HB1 := Lib.hid hb1
    have hz1 := hb1.size
    simp only [World.size_alloc] at hz1
    ((try clear b0 b1 b2 b3 b4); have b0 := box_cell HB1.out 0; have b1 := box_cell HB1.out 1; have b2 := box_cell HB1.out 2; have b3 := box_cell HB1.out 3; have b4 := box_cell HB1.out 4; (try simp at b0 b1 b2 b3 b4))
    have hbw1 := boxW _ hb1
    obtain ⟨xs, hxl, hxr, hx1, hxc⟩ := (HHI.out.keep (keeps_of_below hbw1)).rowOn
    have HXr := Lib.hid hxr
    have HX1 := Lib.hid hx1
    have HXc := Lib.hid (fun W (hW : Below w1.heap.size w1 W) => (show hard.length = 0 ∨ ∃ b off, ah = some ⟨b, off, none⟩ ∧ ∀ j u, xs[j]? = some u → W.cell? ⟨b, off + j, none⟩ = some u from by
      rcases hxc with h | ⟨b, off, h1, h2⟩
      · exact Or.inl h
      · exact Or.inr ⟨b, off, h1, fun j u hu => keeps_of_below hW _ _ (h2 j u hu)⟩))
    have HKb := Lib.hid (fun W (hW : Below w1.heap.size w1 W) => (⟨keeps_of_below hW _ _ b0, keeps_of_below hW _ _ b1, keeps_of_below hW _ _ b2, keeps_of_below hW _ _ b3, keeps_of_below hW _ _ b4⟩ : _ ∧ _ ∧ _ ∧ _ ∧ _))
    clear hb1 hxr hx1 hxc
    have HSu := Lib.hid (fun W (hW : Below w1.heap.size w1 W) => (HSu.out W (hbw1.trans (hW.mono hbw1.size))).mono (R' := fun e w' => ∃ z a cap, z = W.heap.size ∧ e = .returned (.slice a sl.length cap) ∧ Hid (ExsOff (fun k => z ≤ k ∧ k < w'.heap.size) w' sl a cap) ∧ Hid (Below W.heap.size W w') ∧ Below w1.heap.size w1 w') (fun e w' ⟨z, a, cap, h1, h2, h3, h4⟩ => ⟨z, a, cap, h1, h2, h3, h4, hW.trans (h4.mono hW.size)⟩))
    go_upto_region 3 with fail
    go_cut [4] from 8 (fun r wx => ∃ ra rc, r = .slice ra base.length rc ∧ ExsIn wx base ra rc ∧ Below w1.heap.size w1 wx)
    case first =>
      go_region_held3 (fun w' => Below w1.heap.size w1 w' ∧ w'.cell? ⟨w.heap.size, 0, none⟩ = some (.slice av vs.length cv) ∧ w'.cell? ⟨w.heap.size, 1, none⟩ = some (.slice ah hard.length ch) ∧ w'.cell? ⟨w.heap.size, 2, none⟩ = some (.slice ao soft.length co) ∧ w'.cell? ⟨w.heap.size, 3, none⟩ = some (.slice ad ds.length cd) ∧ w'.cell? ⟨w.heap.size, 4, none⟩ = some (.slice ag gs.length cg))
        ((refine (fun h => ⟨h, HKb.out _ h⟩) ?_; first | assumption | exact (by repeat (first | assumption | exact Below.refl _ _ | refine Below.drew ?_ | refine below_drewN ?_ _ | refine Below.alloc ?_ (by first | omega | (simp only [World.size_alloc, World.size_setCell, World.size_drew, World.heap_drewN] <;> omega) | (simp <;> omega)) _ | refine Below.setCell ?_ (by first | omega | (simp only [World.size_alloc, World.size_setCell, World.size_drew, World.heap_drewN] <;> omega) | (simp <;> omega)) _))))
        (first
          | (refine step_exs (by rfl) (.tmp 11) (.tmp 13) (by rfl) w1.heap.size _ 0 [] (by rfl) (Loose.lit _ _ _) xs hard.length ah ch hxl HX1.out (HXc.out _ (by first | exact And.left (by assumption) | exact (by repeat (first | assumption | exact Below.refl _ _ | refine Below.drew ?_ | refine below_drewN ?_ _ | refine Below.alloc ?_ (by first | omega | (simp only [World.size_alloc, World.size_setCell, World.size_drew, World.heap_drewN] <;> omega) | (simp <;> omega)) _ | refine Below.setCell ?_ (by first | omega | (simp only [World.size_alloc, World.size_setCell, World.size_drew, World.heap_drewN] <;> omega) | (simp <;> omega)) _)))) (by rfl) (by omega) (by first | omega | (simp only [World.size_alloc, World.size_setCell, World.size_drew, World.heap_drewN] <;> omega) | (simp <;> omega)) ?_; intro v4 w4 hl4 hg4 hat4; have hB4 : Below w1.heap.size w1 w4 := (Below.grown (B := w1.heap.size) (by first | exact And.left (by assumption) | exact (by repeat (first | assumption | exact Below.refl _ _ | refine Below.drew ?_ | refine below_drewN ?_ _ | refine Below.alloc ?_ (by first | omega | (simp only [World.size_alloc, World.size_setCell, World.size_drew, World.heap_drewN] <;> omega) | (simp <;> omega)) _ | refine Below.setCell ?_ (by first | omega | (simp only [World.size_alloc, World.size_setCell, World.size_drew, World.heap_drewN] <;> omega) | (simp <;> omega)) _))) hg4 (by first | omega | (simp only [World.size_alloc, World.size_setCell, World.size_drew, World.heap_drewN] <;> omega) | (simp <;> omega)) (fun q hq => (by simp [Value.ownBlock] at hq; omega))); have hz4 := hg4.size; (try simp only [World.size_alloc, World.size_drew] at hz4); have ho4 : ∀ q, v4.ownBlock = some q → w1.heap.size ≤ q := (fun q hq => (by rcases hat4 q hq with h | h <;> simp only [Value.ownBlock, Option.some.injEq, World.size_alloc, World.size_drew] at h <;> omega)))
          | (refine step_exs (by rfl) (.tmp 14) (.tmp 16) (by rfl) w1.heap.size v4 (0 + hard.length) ([] ++ xs) (by rfl) (by first | exact hl4 | exact hl4.below hb3.out) ys sl.length sa sc hyl (exRow_one (hyr.out w3 (fun _ _ _ h => h))) (by refine hyc.out.imp id (fun ⟨b, off, h1, h2, h3⟩ => ⟨b, off, h1, fun j u hu => ?_⟩); first | exact h3 j u hu | exact agree_grown hg4 (by intro k hk _ h; simp only [Value.ownBlock, Option.some.injEq] at h; have := HZ.out; omega) ⟨b, off + j, none⟩ u h2 (h3 j u hu) | exact agree_grown hg4 (by intro k hk _ h; simp only [Value.ownBlock, Option.some.injEq] at h; have := HZ.out; omega) ⟨b, off + j, none⟩ u h2 (agree_alloc _ _ ⟨b, off + j, none⟩ u h2 (h3 j u hu))) (by rfl) (by omega) (by first | omega | (simp only [World.size_alloc, World.size_setCell, World.size_drew, World.heap_drewN] <;> omega) | (simp <;> omega)) ?_; intro v5 w5 hl5 hg5 hat5; have hB5 : Below w1.heap.size w1 w5 := (Below.grown (B := w1.heap.size) (by first | assumption | exact And.left (by assumption) | exact (by repeat (first | assumption | exact Below.refl _ _ | refine Below.drew ?_ | refine below_drewN ?_ _ | refine Below.alloc ?_ (by first | omega | (simp only [World.size_alloc, World.size_setCell, World.size_drew, World.heap_drewN] <;> omega) | (simp <;> omega)) _ | refine Below.setCell ?_ (by first | omega | (simp only [World.size_alloc, World.size_setCell, World.size_drew, World.heap_drewN] <;> omega) | (simp <;> omega)) _))) hg5 (by first | omega | (simp only [World.size_alloc, World.size_setCell, World.size_drew, World.heap_drewN] <;> omega) | (simp <;> omega)) ho4); have hag5 : ExRow w5 sl ys := hyr.out w5 (by first | exact agree_grown hg5 (by intro k hk _ h; rcases hat4 k h with h | h <;> simp only [Value.ownBlock, Option.some.injEq, World.size_alloc, World.size_drew] at h <;> (have := HZ.out; omega)) | exact (agree_grown hg4 (by intro k hk _ h; simp only [Value.ownBlock, Option.some.injEq] at h; have := HZ.out; omega)).trans (agree_grown hg5 (by intro k hk _ h; rcases hat4 k h with h | h <;> simp only [Value.ownBlock, Option.some.injEq, World.size_alloc, World.size_drew] at h <;> (have := HZ.out; omega))) | exact ((agree_alloc _ _).trans (agree_grown hg4 (by intro k hk _ h; simp only [Value.ownBlock, Option.some.injEq] at h; have := HZ.out; omega))).trans (agree_grown hg5 (by intro k hk _ h; rcases hat4 k h with h | h <;> simp only [Value.ownBlock, Option.some.injEq, World.size_alloc, World.size_drew] at h <;> (have := HZ.out; omega)))))
          | (go_at_call 67; (with_reducible refine (HSu.out _ (by first | exact And.left (by assumption) | exact (by repeat (first | assumption | exact Below.refl _ _ | refine Below.drew ?_ | refine below_drewN ?_ _ | refine Below.alloc ?_ (by first | omega | (simp only [World.size_alloc, World.size_setCell, World.size_drew, World.heap_drewN] <;> omega) | (simp <;> omega)) _ | refine Below.setCell ?_ (by first | omega | (simp only [World.size_alloc, World.size_setCell, World.size_drew, World.heap_drewN] <;> omega) | (simp <;> omega)) _)))).mono ?_); rintro e w3 ⟨z, sa, sc, hz, rfl, hso3, hb3, hB3⟩; (try simp only [World.size_alloc, World.size_drew] at hz); have HZ := Lib.hid hz; clear hz; have hz3 := hB3.size; have hz3' := hb3.out.size; (try simp only [World.size_alloc, World.size_drew] at hz3'); obtain ⟨ys, hyl, hyr', _, _, hyc'⟩ := hso3.out; have hyr := Lib.hid hyr'; have hyc := Lib.hid hyc'; clear hyr' hyc'))
      all_goals
        have hrow : ExRow w5 (hard ++ sl) (xs ++ ys) := (HXr.out w5 (agree_below hB5)).append hag5
        have hll : (hard ++ sl).length = hard.length + sl.length := List.length_append
        rw [HBase.out] at hrow hll
        obtain ⟨ra, rc, hv, hI⟩ := Loose.ins (l := base) hl5 (by omega) (by simpa using hrow) (by omega)
        go_wp2_with fail
        go_meet
        case rel => exact ⟨ra, rc, hv, hI, hB5⟩
    case rest =>
      obtain ⟨ra, rc, rfl, hrI, hbc⟩ := hcut
      have HBc : Hid (Below (w.heap.size + 1) (w.alloc (.cells #[.slice av vs.length cv, .slice ah hard.length ch, .slice ao soft.length co, .slice ad ds.length cd, .slice ag gs.length cg] 27)) wc) := HB1.out.trans (hbc.mono (by omega))
      have HrI := Lib.hid hrI
      have hzc := HBc.out.size
      simp only [World.size_alloc] at hzc
      ((try clear b0 b1 b2 b3 b4); have b0 := box_cell HBc.out 0; have b1 := box_cell HBc.out 1; have b2 := box_cell HBc.out 2; have b3 := box_cell HBc.out 3; have b4 := box_cell HBc.out 4; (try simp at b0 b1 b2 b3 b4))
      have HP := Lib.hid (HP0.out base ra rc wc (boxW _ HBc.out) hrI HRx.out)
      clear hrI hbc HXr HX1 HXc HKb HSu hxl
      go_wp2_with fail
      refine HP.out.mono ?_
      rintro e w3 ⟨rfl, hb3⟩
      have HB3 := Lib.hid (HBc.out.trans (hb3.mono (by omega)))
      have hz3 := HB3.out.size
      simp only [World.size_alloc] at hz3
      ((try clear b0 b1 b2 b3 b4); have b0 := box_cell HB3.out 0; have b1 := box_cell HB3.out 1; have b2 := box_cell HB3.out 2; have b3 := box_cell HB3.out 3; have b4 := box_cell HB3.out 4; (try simp at b0 b1 b2 b3 b4))
      have HrI3 := Lib.hid (HrI.out.keep (keeps_of_below hb3))
      clear hb3
      cases hsb : S base
      · have HF := Lib.hid (HRn.out hsb w3 (boxW _ HB3.out))
        clear HRn HRy
        go_wp2_with fail
        (try rw [Exit.noGoto_ret])
        go_ret2
        exact HF.out
      · have HF := Lib.hid (HRy.out hsb)
        clear HRn HRy hsb
        have hsw : IntKind.i64.wrap ((soft.length : Int) - 1) = (soft.length : Int) - 1 := by rw [IntKind.wrap_i64]; omega
        go_wp2_with fail
        go_loopw [4, 5, 6, 7] (fun r kp i _ wr => ∃ (k : Nat) (iv : Int) (la : Option Addr) (lc : Nat) (rl : List Ex) (ka : Option Addr) (kc : Nat), i = .int .i64 iv ∧ iv + k + 1 = soft.length ∧ k ≤ soft.length ∧ r = .slice la rl.length lc ∧ Hid (rl = (keepS S soft base k).1) ∧ Hid (ExsIn wr rl la lc) ∧ kp = .slice ka (keepS S soft base k).2.length kc ∧ Hid (IntsIn wr (intsN (keepS S soft base k).2.reverse) ka kc) ∧ Below (w.heap.size + 1) (w.alloc (.cells #[.slice av vs.length cv, .slice ah hard.length ch, .slice ao soft.length co, .slice ad ds.length cd, .slice ag gs.length cg] 27)) wr) (fun _ _ i _ _ => (intOf i + 1).toNat)
        case atStart => exact ⟨0, _, ra, rc, base, none, 0, rfl, by omega, Nat.zero_le _, rfl, rfl, HrI3.out, rfl, ⟨by simp [keepS, intsN], by simp [keepS, intsN], Or.inl (by simp [keepS, intsN])⟩, HB3.out⟩
        case round =>
          obtain ⟨k, iv, la, lc, rl, ka, kc, rfl, hiv, hk, rfl, Hrl, HI, rfl, HK, hB⟩ := hrel
          have HB := Lib.hid hB
          have HBw := Lib.hid (boxW _ hB)
          have HLn := keepS_len S soft base k
          have hrlen : rl.length ≤ base.length + k := by rw [Hrl.out]; exact HLn.1
          have hbl := HBl.out
          have hzr := hB.size
          simp only [World.size_alloc] at hzr
          clear hB
          ((try clear b0 b1 b2 b3 b4); have b0 := box_cell HB.out 0; have b1 := box_cell HB.out 1; have b2 := box_cell HB.out 2; have b3 := box_cell HB.out 3; have b4 := box_cell HB.out 4; (try simp at b0 b1 b2 b3 b4))
          by_cases hlt : k < soft.length
          · obtain ⟨j, rfl⟩ : ∃ j : Nat, iv = (j : Int) := ⟨iv.toNat, by omega⟩
            have hj : j < soft.length := by omega
            have hj0 : (0 : Int) ≤ (j : Int) := by omega
            obtain ⟨sb, so, hso2⟩ := HSI.out.addr.resolve_left (by omega)
            subst hso2
            obtain ⟨ea, ec, g0, g1, g2, g3, hX⟩ := HSI.out.elt hj
            have kk := keeps_of_below HBw.out
            have c0 := kk _ _ g0
            have c1 := kk _ _ g1
            have c2 := kk _ _ g2
            have c3 := kk _ _ g3
            have HRk := Lib.hid (HPr.out rl _ (by rw [Hrl.out]; exact HKr.out k) (HSx.out j hj))
            have HY := Lib.hid (fun h => keepS_yes (S := S) (base := base) (k := k) hj (by omega) h)
            have HNo := Lib.hid (fun h => keepS_no (S := S) (base := base) (k := k) hj (by omega) h)
            rw [← Hrl.out] at HY HNo
            generalize (soft[j]'hj) = e at c0 c1 c2 c3 hX HRk HY HNo
            obtain ⟨xs, hxl, hxr, hx1, hxc⟩ := HI.out.rowOn
            have HXr := Lib.hid hxr
            have HX1 := Lib.hid hx1
            have HXc := Lib.hid (fun W (hW : Below wr.heap.size wr W) => (show rl.length = 0 ∨ ∃ b off, la = some ⟨b, off, none⟩ ∧ ∀ j u, xs[j]? = some u → W.cell? ⟨b, off + j, none⟩ = some u from by
              rcases hxc with h | ⟨b, off, h1, h2⟩
              · exact Or.inl h
              · exact Or.inr ⟨b, off, h1, fun j u hu => keeps_of_below hW _ _ (h2 j u hu)⟩))
            have HEx : Hid (∀ W, Below wr.heap.size wr W → ExRow W [e] [.int .i64 e.op, .int .i64 e.n, .string e.name, .slice ea e.args.length ec]) := fun W hW => hX W (fun p v h => keeps_of_below hW _ _ (kk _ _ h))
            have HKb := Lib.hid (fun W (hW : Below wr.heap.size wr W) => (⟨keeps_of_below hW _ _ b0, keeps_of_below hW _ _ b1, keeps_of_below hW _ _ b2, keeps_of_below hW _ _ b3, keeps_of_below hW _ _ b4, keeps_of_below hW _ _ c0, keeps_of_below hW _ _ c1, keeps_of_below hW _ _ c2, keeps_of_below hW _ _ c3⟩ : _ ∧ _ ∧ _ ∧ _ ∧ _ ∧ _ ∧ _ ∧ _ ∧ _))
            have hkb : ∀ o1 : Obj, ((wr.alloc o1).alloc (.cells #[.int .i64 e.op, .int .i64 e.n, .string e.name, .slice ea e.args.length ec] 57)).drew.heap[wr.heap.size + 1]? = some (.cells #[.int .i64 e.op, .int .i64 e.n, .string e.name, .slice ea e.args.length ec] 57 (0, 0)) := fun o1 => by
              have h := heap_alloc_new' (wr.alloc o1) (.cells #[.int .i64 e.op, .int .i64 e.n, .string e.name, .slice ea e.args.length ec] 57)
              simp only [World.size_alloc] at h
              exact h
            have hkc : ∀ o1 : Obj, ((wr.alloc (.cells #[.int .i64 e.op, .int .i64 e.n, .string e.name, .slice ea e.args.length ec] 57)).alloc o1).drew.heap[wr.heap.size]? = some (.cells #[.int .i64 e.op, .int .i64 e.n, .string e.name, .slice ea e.args.length ec] 57 (0, 0)) := fun o1 => (Below.heap_alloc _ _ _ (by simp)).trans (heap_alloc_new' wr _)
            have HKB := Lib.hid hkb
            have HKC := Lib.hid hkc
            have hBr : Below wr.heap.size wr wr := Below.refl _ _
            clear g0 g1 g2 g3 hX kk hxr hx1 hxc hkb hkc
            go_upto_region 10 with fail
            go_cut [7] from 26 to 47 (fun r wx => ∃ ma mc, r = .slice ma (rl ++ [e]).length mc ∧ ExsIn wx (rl ++ [e]) ma mc ∧ Below wr.heap.size wr wx)
            case first =>
              go_region_held3 (fun w' => Below wr.heap.size wr w' ∧ w'.cell? ⟨w.heap.size, 0, none⟩ = some (.slice av vs.length cv) ∧ w'.cell? ⟨w.heap.size, 1, none⟩ = some (.slice ah hard.length ch) ∧ w'.cell? ⟨w.heap.size, 2, none⟩ = some (.slice (some ⟨sb, so, none⟩) soft.length co) ∧ w'.cell? ⟨w.heap.size, 3, none⟩ = some (.slice ad ds.length cd) ∧ w'.cell? ⟨w.heap.size, 4, none⟩ = some (.slice ag gs.length cg) ∧ w'.cell? ⟨sb, so + j * 4, none⟩ = some (.int .i64 e.op) ∧ w'.cell? ⟨sb, so + j * 4 + 1, none⟩ = some (.int .i64 e.n) ∧ w'.cell? ⟨sb, so + j * 4 + 2, none⟩ = some (.string e.name) ∧ w'.cell? ⟨sb, so + j * 4 + 3, none⟩ = some (.slice ea e.args.length ec))
                ((refine (fun h => ⟨h, HKb.out _ h⟩) ?_; first | assumption | exact (by repeat (first | assumption | exact Below.refl _ _ | refine Below.drew ?_ | refine below_drewN ?_ _ | refine Below.alloc ?_ (by first | omega | (simp only [World.size_alloc, World.size_setCell, World.size_drew, World.heap_drewN] <;> omega) | (simp <;> omega)) _ | refine Below.setCell ?_ (by first | omega | (simp only [World.size_alloc, World.size_setCell, World.size_drew, World.heap_drewN] <;> omega) | (simp <;> omega)) _))))
                (first
                  | (refine step_exs (by rfl) (.tmp 30) (.tmp 31) (by rfl) wr.heap.size _ 0 [] (by rfl) (Loose.lit _ _ _) xs rl.length la lc hxl HX1.out (HXc.out _ (by first | exact And.left (by assumption) | exact (by repeat (first | assumption | exact Below.refl _ _ | refine Below.drew ?_ | refine below_drewN ?_ _ | refine Below.alloc ?_ (by first | omega | (simp only [World.size_alloc, World.size_setCell, World.size_drew, World.heap_drewN] <;> omega) | (simp <;> omega)) _ | refine Below.setCell ?_ (by first | omega | (simp only [World.size_alloc, World.size_setCell, World.size_drew, World.heap_drewN] <;> omega) | (simp <;> omega)) _)))) (by rfl) (by omega) (by first | omega | (simp only [World.size_alloc, World.size_setCell, World.size_drew, World.heap_drewN] <;> omega) | (simp <;> omega)) ?_; intro v4 w4 hl4 hg4 hat4; have hB4 : Below wr.heap.size wr w4 := (Below.grown (B := wr.heap.size) (by first | exact And.left (by assumption) | exact (by repeat (first | assumption | exact Below.refl _ _ | refine Below.drew ?_ | refine below_drewN ?_ _ | refine Below.alloc ?_ (by first | omega | (simp only [World.size_alloc, World.size_setCell, World.size_drew, World.heap_drewN] <;> omega) | (simp <;> omega)) _ | refine Below.setCell ?_ (by first | omega | (simp only [World.size_alloc, World.size_setCell, World.size_drew, World.heap_drewN] <;> omega) | (simp <;> omega)) _))) hg4 (by first | omega | (simp only [World.size_alloc, World.size_setCell, World.size_drew, World.heap_drewN] <;> omega) | (simp <;> omega)) (fun q hq => (by simp [Value.ownBlock] at hq; omega))); have hz4 := hB4.size; have ho4 : ∀ q, v4.ownBlock = some q → wr.heap.size ≤ q := (fun q hq => (by rcases hat4 q hq with h | h <;> simp only [Value.ownBlock, Option.some.injEq, World.size_alloc, World.size_drew] at h <;> omega)))
                  | (refine step_exs (by rfl) (.tmp 32) (.tmp 38) (by rfl) wr.heap.size v4 (0 + rl.length) ([] ++ xs) (by rfl) (by first | exact hl4 | exact hl4.below (by repeat (first | assumption | exact Below.refl _ _ | refine Below.drew ?_ | refine below_drewN ?_ _ | refine Below.alloc ?_ (by first | omega | (simp only [World.size_alloc, World.size_setCell, World.size_drew, World.heap_drewN] <;> omega) | (simp <;> omega)) _ | refine Below.setCell ?_ (by first | omega | (simp only [World.size_alloc, World.size_setCell, World.size_drew, World.heap_drewN] <;> omega) | (simp <;> omega)) _))) [.int .i64 e.op, .int .i64 e.n, .string e.name, .slice ea e.args.length ec] 1 _ 1 rfl (by simp [Value.oneCell']) (Or.inr ⟨_, 0, rfl, cells_of_block (by first | exact heap_alloc_new' _ _ | exact (hg4.block _ (by simp only [World.size_drew, World.size_alloc]; omega) (by simp [Value.ownBlock])).trans (HKB.out _) | exact (hg4.block _ (by simp only [World.size_drew, World.size_alloc]; omega) (by simp [Value.ownBlock])).trans (HKC.out _))⟩) (by rfl) (by omega) (by first | omega | (simp only [World.size_alloc, World.size_setCell, World.size_drew, World.heap_drewN] <;> omega) | (simp <;> omega)) ?_; intro v5 w5 hl5 hg5 hat5; have hB5 : Below wr.heap.size wr w5 := (Below.grown (B := wr.heap.size) (by first | assumption | exact And.left (by assumption) | exact (by repeat (first | assumption | exact Below.refl _ _ | refine Below.drew ?_ | refine below_drewN ?_ _ | refine Below.alloc ?_ (by first | omega | (simp only [World.size_alloc, World.size_setCell, World.size_drew, World.heap_drewN] <;> omega) | (simp <;> omega)) _ | refine Below.setCell ?_ (by first | omega | (simp only [World.size_alloc, World.size_setCell, World.size_drew, World.heap_drewN] <;> omega) | (simp <;> omega)) _))) hg5 (by first | omega | (simp only [World.size_alloc, World.size_setCell, World.size_drew, World.heap_drewN] <;> omega) | (simp <;> omega)) ho4)))
              all_goals
                have hrow : ExRow w5 (rl ++ [e]) (xs ++ [.int .i64 e.op, .int .i64 e.n, .string e.name, .slice ea e.args.length ec]) := (HXr.out w5 (agree_below hB5)).append (HEx.out w5 hB5)
                obtain ⟨ma, mc, hv, hI⟩ := Loose.ins (l := rl ++ [e]) hl5 (by simp) (by simpa using hrow) (by simp; omega)
                go_wp2_with fail
                go_meet
                case rel => exact ⟨ma, mc, hv, hI, hB5⟩
            case rest =>
              obtain ⟨ma, mc, rfl, hmI, hbc⟩ := hcut
              rename World => w4
              have HB4 := Lib.hid (HB.out.trans (hbc.mono (by omega)))
              have HM4 := Lib.hid hmI
              have HI4 := Lib.hid (HI.out.keep (keeps_of_below hbc))
              have HK4 := Lib.hid (HK.out.keep (keeps_of_below hbc))
              have hz4 := HB4.out.size
              simp only [World.size_alloc] at hz4
              ((try clear b0 b1 b2 b3 b4); have b0 := box_cell HB4.out 0; have b1 := box_cell HB4.out 1; have b2 := box_cell HB4.out 2; have b3 := box_cell HB4.out 3; have b4 := box_cell HB4.out 4; (try simp at b0 b1 b2 b3 b4))
              have HS4 := Lib.hid (HP0.out (rl ++ [e]) ma mc w4 (boxW _ HB4.out) hmI HRk.out)
              have hne : (rl ++ [e]).length = rl.length + 1 := by simp
              rw [hne] at HS4
              have hkl : (keepS S soft base k).2.length ≤ 1000 := by have := HLn.2; omega
              clear hmI hbc HXr HX1 HXc HEx HKb HKB HKC c0 c1 c2 c3 hBr
              cases hse : S (rl ++ [e])
              · rw [hse] at HS4
                have HNx := Lib.hid (HNo.out hse)
                clear hse HY HNo HRk
                go_wp2_with (go_at_call 68; (with_reducible refine HS4.out.mono ?_); rintro e5 w5 ⟨rfl, hb5⟩)
                go_roundw
                case rel => exact ⟨k + 1, (j : Int) - 1, la, lc, rl, ka, kc, by go_num, by omega, by omega, rfl, by rw [HNx.out]; exact Hrl.out, HI4.out.keep (keeps_of_below hb5), by rw [HNx.out], by rw [HNx.out]; exact HK4.out.keep (keeps_of_below hb5), HB4.out.trans (hb5.mono (by omega))⟩
                case measure => (simp [intOf]; try omega)
              · rw [hse] at HS4
                have HNx := Lib.hid (HY.out hse)
                clear hse HY HNo HRk
                go_wp2_with (first | (go_at_call 68; (with_reducible refine HS4.out.mono ?_); rintro e5 w5 ⟨rfl, hb5⟩; have HB5 := Lib.hid (HB4.out.trans (hb5.mono (by omega))); have HM5 := Lib.hid (HM4.out.keep (keeps_of_below hb5)); have HK5 := Lib.hid (HK4.out.keep (keeps_of_below hb5)); have hz5 := HB5.out.size; simp only [World.size_alloc] at hz5; clear hb5) | (at_builtin; go_must (refine own_gen elemI _ rfl (.tmp 45) (.tmp 46) rfl w5.heap.size _ 1 [.int .i64 (j : Int)] rfl (World.ownsRow_lit (base := w5.heap.size) (e := 3) (size := 1) w5 #[.int .i64 (j : Int)] 1 (Nat.le_refl _) (by unfold maxLen; omega) rfl) ((intsN (keepS S soft base k).2.reverse).map (Value.int .i64)) (keepS S soft base k).2.length ka kc (by simp [intsN]) (by intro u hu; simp at hu; obtain ⟨a, _, rfl⟩ := hu; rfl) (ints_cells2 HK5.out (by repeat (first | assumption | exact Below.refl _ _ | refine Below.drew ?_ | refine below_drewN ?_ _ | refine Below.alloc ?_ (by first | omega | (simp only [World.size_alloc, World.size_setCell, World.size_drew, World.heap_drewN] <;> omega) | (simp <;> omega)) _ | refine Below.setCell ?_ (by first | omega | (simp only [World.size_alloc, World.size_setCell, World.size_drew, World.heap_drewN] <;> omega) | (simp <;> omega)) _))) rfl (by omega) (by simp) ?_)))
                intro v6 w6 ho6 hg6
                have hb6 : Below w5.heap.size w5 w6 := Below.grown (B := w5.heap.size) ((Below.refl _ _).alloc (Nat.le_refl _) _) hg6 (by simp) (fun q hq => by simp [Value.ownBlock] at hq; omega)
                obtain ⟨oa, oc, rfl, hoI⟩ := ints_push ho6 (by omega)
                have HoI := Lib.hid hoI
                have HB6 := Lib.hid (HB5.out.trans (hb6.mono (by omega)))
                have HM6 := Lib.hid (HM5.out.keep (keeps_of_below hb6))
                clear ho6 hg6 hb6 hoI
                go_wp2_with fail
                go_roundw
                case rel => exact ⟨k + 1, (j : Int) - 1, ma, mc, rl ++ [e], oa, oc, by go_num, by omega, by omega, by rw [hne], (show _ = _ by rw [HNx.out]), HM6.out, by rw [HNx.out, List.length_append]; rfl, by rw [HNx.out]; exact HoI.out, HB6.out⟩
                case measure => (simp [intOf]; try omega)
          · rename World => w7
            obtain rfl : k = soft.length := by omega
            obtain rfl : iv = -1 := by omega
            have HFn := HF.out w7 ka kc (by rw [HKN.out]; exact HK.out) HBw.out
            rw [HKN.out, List.length_reverse] at HFn
            have HFn := Lib.hid HFn
            go_wp2_with fail
            (try rw [Exit.noGoto_ret])
            go_ret2
            exact HFn.out
  · have HV1 := Lib.hid (fun W hW => errF (HV0.out W hW) hp)
    have HRn : Hid (∀ w', Below w.heap.size w w' → KeptRet p w (.returned (.tuple #[.slice none 0 0, .int .i64 1])) w') := fun w' hb => by
      have h1 : keptI p = [] := by unfold keptI; rw [if_neg (fun h2 => by rw [pB_false hp] at h2; simp at h2)]
      have h2 : keptErr p = 1 := by unfold keptErr; rw [if_neg (by rw [pB_false hp]; simp)]
      exact ⟨none, 0, by rw [h1, h2]; rfl, by rw [h1]; exact ⟨Nat.zero_le _, by decide, Or.inl rfl⟩, hb⟩
    simp only [probVal_eq] at HV1 ⊢
    clear HV0 hsu hE hs hp HSu0
    obtain ⟨vs, hard, soft, ds, gs⟩ := p
    obtain ⟨av, cv, ah, ch, ao, co, ad, cd, ag, cg⟩ := x
    simp only at HV1 HRn ⊢
    have HV := Lib.hid (HV1.out (w.alloc (.cells #[.slice av vs.length cv, .slice ah hard.length ch, .slice ao soft.length co, .slice ad ds.length cd, .slice ag gs.length cg] 27)) ((Below.refl _ _).alloc (Nat.le_refl _) _))
    clear HV1
    go_enter Tryz.func33, Tryz.ntmps33
    go_wp2_with fail
    refine HV.out.mono ?_
    rintro e w1 ⟨⟨n, rfl, hn⟩, hb1⟩
    have HF := Lib.hid (HRn.out w1 (boxW _ (by simpa using hb1)))
    clear hb1 HRn
    go_wp2_with fail
    (try rw [Exit.noGoto_ret])
    go_ret2
    exact HF.out
end Go.Proofs.YtgdphjgedhadoaaGreatDoor
