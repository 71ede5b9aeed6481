/- ref32: Run. -/
import Derived.Test.YteaeemkodbodmaaGreatDoorDT
import Derived.Deep.AppendLies
set_option linter.unusedSimpArgs false
set_option linter.unusedVariables false
set_option linter.unnecessarySimpa false
namespace Go.Proofs.YteaeemkodbodmaaGreatDoor
open Go.RowKit
attribute [local go_sem ↓] Go.wp_at_zero Go.wp_at_succ

theorem own_appx {P : Program} {ops : Array Oper} {rest : List Oper} {o : Oper} {a : Act} {Q : Exit → Act → World → Prop} {t e : TypeId} {size : Nat} (he : Elem P t e size) (w : World) (hgd : o.guard = none) (s x : Operand)
    (ho : o.op = .call { callee := .builtin .append, args := #[s, x], argTypes := #[t, t] })
    (base : Nat) (v : Value) (n : Nat) (xs : List Value) (hs : a.eval s = v) (hown : w.ownsRow base e size v n xs)
    (news : List Value) (m k c : Nat) (hl : news.length = m * size) (h1 : ∀ u ∈ news, u.oneCell' = true) (hx : a.eval x = .slice (some ⟨k, 0, none⟩) m c) (hk : k = w.heap.size) (hm : 0 < m) (hn : n + m ≤ 1073741824) (hbase : base ≤ w.heap.size)
    (h : ∀ g cap w', w'.ownsRow base e size (.slice (some ⟨g, 0, none⟩) (n + m) cap) (n + m) (xs ++ news) → (w.alloc (.cells news.toArray e)).grownBy w' v.ownBlock → (v.ownBlock = some g ∨ w.heap.size < g) → wpList P ops Q rest (a.put o.dst (.slice (some ⟨g, 0, none⟩) (n + m) cap)) w') :
    wpList P ops Q (o :: rest) a (w.alloc (.cells news.toArray e)) := by
  subst hk
  obtain ⟨ht, i, z, bytes, hi, hz, hsz, hby, hzs, h0, hb⟩ := he
  refine wpList_append_lies (w.alloc (.cells news.toArray e)) hgd s x t ho base e i z size bytes ht hi hz hsz hby hzs h0 v n xs hs (hown.alloc _) ⟨w.heap.size, 0, none⟩ m c news hx hl ?_ h1 hm (by unfold maxLen; omega) ?_ (by simp; omega) (w.heap.size + 1) (by simp) (fun g cap w' h2 h3 h4 _ => h g cap w' h2 h3 (h4.imp id (by omega)))
  · have := World.news_of_block (heap_alloc_new' w (.cells news.toArray e))
    simpa using this
  · calc (n + m) * bytes ≤ 1073741824 * 1024 := Nat.mul_le_mul hn hb
      _ ≤ _ := by decide
theorem IntsIn.heap {w w' : World} {l : List Int} {a : Option Addr} {c : Nat} (h : IntsIn w l a c) (hb : ∀ p : Addr, a = some p → p.block < w.heap.size → w'.heap[p.block]? = w.heap[p.block]?) : IntsIn w' l a c := by
  refine ⟨h.1, h.2.1, h.2.2.imp id ?_⟩
  rintro ⟨b', o', ha, hq⟩
  refine ⟨b', o', ha, fun i hi => ?_⟩
  obtain ⟨v, hv, h1⟩ := hq i hi
  have h0 := hb _ ha (show b' < w.heap.size from World.block_lt_of_cell? _ _ h1)
  exact ⟨v, hv, (World.cell?_of_block (a := ⟨b', o' + i * 1, none⟩) h0).trans h1⟩
/-- the first k rows, each in a block of its own behind block b8, none of them the block ob -/
def RowsP (w : World) (d : DesD) (rows : List Sigs) (b8 : Nat) (ob : Option Nat) (k : Nat) (vs : List Value) : Prop := vs.length = k ∧ ∀ t, t < k → ∃ a c, vs[t]? = some (.slice a d.names.length c) ∧ IntsIn w (rowN d rows t) a c ∧ ∀ p : Addr, a = some p → p.block < w.heap.size ∧ ob ≠ some p.block ∧ b8 < p.block
theorem RowsP.heap {w w' : World} {d : DesD} {rows : List Sigs} {b8 : Nat} {ob ob' : Option Nat} {k : Nat} {vs : List Value} (h : RowsP w d rows b8 ob k vs) (hs : w.heap.size ≤ w'.heap.size) (hb : ∀ q, q < w.heap.size → ob ≠ some q → b8 < q → w'.heap[q]? = w.heap[q]?) (ho : ∀ q, q < w.heap.size → ob ≠ some q → ob' ≠ some q) : RowsP w' d rows b8 ob' k vs := by
  refine ⟨h.1, fun t ht => ?_⟩
  obtain ⟨a, c, h1, h2, h3⟩ := h.2 t ht
  refine ⟨a, c, h1, h2.heap fun p hp hq => hb _ hq (h3 p hp).2.1 (h3 p hp).2.2, fun p hp => ?_⟩
  obtain ⟨g1, g2, g3⟩ := h3 p hp
  exact ⟨by omega, ho _ g1 g2, g3⟩
theorem RowsP.keep {w w' : World} {d : DesD} {rows : List Sigs} {b8 : Nat} {ob : Option Nat} {k : Nat} {vs : List Value} (h : RowsP w d rows b8 ob k vs) (hb : Below w.heap.size w w') : RowsP w' d rows b8 ob k vs := h.heap hb.size (fun q hq _ _ => hb.block q hq) (fun _ _ h => h)
theorem RowsP.push {w : World} {d : DesD} {rows : List Sigs} {b8 : Nat} {ob : Option Nat} {k : Nat} {vs : List Value} (h : RowsP w d rows b8 ob k vs) {a : Option Addr} {c : Nat} (hI : IntsIn w (rowN d rows k) a c) (hp : ∀ p : Addr, a = some p → p.block < w.heap.size ∧ ob ≠ some p.block ∧ b8 < p.block) : RowsP w d rows b8 ob (k + 1) (vs ++ [.slice a d.names.length c]) := by
  refine ⟨by simp [h.1], fun t ht => ?_⟩
  by_cases e : t = k
  · subst e
    exact ⟨a, c, by rw [List.getElem?_append_right (by rw [h.1]; omega), h.1]; simp, hI, hp⟩
  · obtain ⟨a', c', h1, h2, h3⟩ := h.2 t (by omega)
    exact ⟨a', c', by rw [List.getElem?_append_left (by rw [h.1]; omega)]; exact h1, h2, h3⟩
theorem rows_of_P {w : World} {base m b8 : Nat} {ob : Option Nat} {v : Value} {d : DesD} {rows : List Sigs} {vs : List Value} (h : w.ownsRow base 30 1 v m vs) (hm : rows.length = m) (hm2 : m ≤ 1073741824) (hP : RowsP w d rows b8 ob m vs) : ∃ a cap, v = .slice a m cap ∧ RowsD w (rowsN d rows) a cap := by
  obtain ⟨a, cap, hv, hq⟩ := slice_of_own h hm2
  have hl : (rowsN d rows).length = m := by simp [rowsN, hm]
  refine ⟨a, cap, hv, ?_⟩
  unfold RowsD
  rw [hl]
  refine hq.mono fun i b' o hi hc => ?_
  have ht : i < rows.length := by omega
  have h0 := hc 0 (by omega)
  obtain ⟨a', c', h1, h2, _⟩ := hP.2 i hi
  refine ⟨rowN d rows i, by simp [rowsN, ht], a', c', ?_, h2⟩
  rw [rowN_len]
  simpa [h1] using h0
theorem rowN_take (d : DesD) (rows : List Sigs) (t j : Nat) (h : j < (rowN d rows t).length) : ((rowN d rows t).map (Value.int .i64)).take (j + 1) = ((rowN d rows t).map (Value.int .i64)).take j ++ [.int .i64 ((rowN d rows t)[j]'h)] := by
  refine take_at ?_
  simp [h]
set_option maxRecDepth 100000 in
set_option maxHeartbeats 16000000 in
theorem rRun_any (d : DesD) (x : DesA) (rows : List Sigs) (aI : Option Addr) (cI : Nat) (w : World)
    (hE : DesIn w d x) (hs : DesSmall d) (hI : SigRows w rows aI cI) (hG : Glob w) :
    Calls Tryz.prog 18 #[desVal d x, .slice aI rows.length cI] w (RunPost w d rows) := by
  have HRe : Hid (∀ W, Below w.heap.size w W → Calls Tryz.prog 13 #[desVal d x] W fun e w' => ((d.err = 0 ∧ ∃ a cap, e = .returned (.tuple #[.slice a d.regs.length cap, .int .i64 0]) ∧ IntsIn w' (stN d rows 0) a cap) ∨ (¬ d.err = 0 ∧ e = .returned (.tuple #[.slice none 0 0, .int .i64 d.err]))) ∧ Below W.heap.size W w') := fun W hW => (rReset_any d x W (hE.below hW) hs (hG.below hW)).mono fun e w' h => by
    obtain ⟨⟨h0, a, cap, h1, h2⟩ | h1, h3⟩ := h
    · have hil : d.inits.length = d.regs.length := by simp [DesD.inits]
      rw [hil] at h1
      exact ⟨Or.inl ⟨h0, a, cap, h1, h2⟩, h3⟩
    · exact ⟨Or.inr h1, h3⟩
  have HNm := Lib.hid (fun W (hW : Below w.heap.size w W) hl => rNames31_any d x W (hE.below hW) hl)
  have HSt : Hid (d.err = 0 → ∀ t inp al cl a c W, Below w.heap.size w W → IntsIn W (stN d rows t) al cl → SigsIn W inp a c → Calls Tryz.prog 30 #[desVal d x, .slice al d.regs.length cl, .slice a inp.length c] W fun e w' => (∃ a1 c1 a2 c2, e = .returned (.tuple #[.slice a1 d.regs.length c1, .slice a2 d.names.length c2, .int .i64 0]) ∧ IntsIn w' (nextS d (settleS d (stN d rows t) inp)) a1 c1 ∧ SigsIn w' (settleS d (stN d rows t) inp) a2 c2 ∧ ∀ p, a1 = some p → W.heap.size ≤ p.block) ∧ Below W.heap.size W w') := fun he t inp al cl a c W hW hL hS => by
    have h1 := rStep_fresh d x (stN d rows t) al cl inp a c W (hE.below hW) hs hL hS
    rw [stN_len] at h1
    refine h1.mono fun e w' h => ?_
    obtain ⟨h, hfr⟩ := h
    obtain ⟨⟨_, _, a1, c1, a2, c2, h2, h3, h4⟩ | ⟨h2, _⟩ | ⟨_, h2, _⟩, h5⟩ := h
    · rw [settle_len inp (stN_len rows t), nextS_len] at h2
      exact ⟨⟨a1, c1, a2, c2, h2, h3, h4, hfr _ _ _ _ _ h2⟩, h5⟩
    · exact absurd he h2
    · rw [stN_state (desOk_of_err he) rows t] at h2
      exact absurd h2 (by decide)
  have HP1 : Hid (∀ aN cN aR cR w', d.err = 0 → rows.length ≤ 4096 → StrsIn w' d.names aN cN → RowsD w' (rowsN d rows) aR cR → Below w.heap.size w w' → RunPost w d rows (.returned (.tuple #[.agg #[.slice aN d.names.length cN, .slice aR rows.length cR], .int .i64 0])) w') := fun aN cN aR cR w' h1 h2 h3 h4 h5 => ⟨Or.inl ⟨h1, h2, aN, cN, aR, cR, rfl, h3, h4⟩, h5⟩
  have HP2 : Hid (∀ w', ¬ d.err = 0 → Below w.heap.size w w' → RunPost w d rows (.returned (.tuple #[.agg #[.slice none 0 0, .slice none 0 0], .int .i64 d.err])) w') := fun w' h1 h2 => ⟨Or.inr (Or.inl ⟨h1, rfl⟩), h2⟩
  have HP3 : Hid (∀ w', d.err = 0 → 4096 < rows.length → Below w.heap.size w w' → RunPost w d rows (.returned (.tuple #[.agg #[.slice none 0 0, .slice none 0 0], .int .i64 2])) w') := fun w' h1 h2 h3 => ⟨Or.inr (Or.inr ⟨h1, h2, rfl⟩), h3⟩
  have hN48 : d.err = 0 → d.names.length ≤ 48 := fun h => (desOk_of_err h).len
  have HIn := Lib.hid hI
  have HIA := Lib.hid hI.addr
  have hil := hI.2.1
  generalize RunPost w d rows = Po at HP1 HP2 HP3 ⊢
  simp only [desVal, desVals] at HRe HNm HSt ⊢
  have hbA : Below w.heap.size w ((w.alloc (.cells #[.string d.name, .slice x.ai d.inputs.length x.ci, .slice x.aw d.wires.length x.cw, .slice x.ar d.regs.length x.cr, .slice x.ao d.outputs.length x.co] 27)).alloc (.cells #[.slice none 0 0, .slice none 0 0] 40)) := (by repeat (first | assumption | exact Below.refl _ _ | refine Below.drew ?_ | refine below_drewN ?_ _ | refine Below.alloc ?_ (by first | omega | (simp only [World.size_alloc, World.size_setCell, World.size_drew, World.heap_drewN] <;> omega) | (simp <;> omega)) _ | refine Below.setCell ?_ (by first | omega | (simp only [World.size_alloc, World.size_setCell, World.size_drew, World.heap_drewN] <;> omega) | (simp <;> omega)) _))
  have hx0 : ((w.alloc (.cells #[.string d.name, .slice x.ai d.inputs.length x.ci, .slice x.aw d.wires.length x.cw, .slice x.ar d.regs.length x.cr, .slice x.ao d.outputs.length x.co] 27)).alloc (.cells #[.slice none 0 0, .slice none 0 0] 40)).heap[w.heap.size]? = some (.cells #[.string d.name, .slice x.ai d.inputs.length x.ci, .slice x.aw d.wires.length x.cw, .slice x.ar d.regs.length x.cr, .slice x.ao d.outputs.length x.co] 27 (0, 0)) := by rw [Below.heap_alloc _ _ _ (by simp)]; exact heap_alloc_at _ _ _ rfl
  have hx1 : ((w.alloc (.cells #[.string d.name, .slice x.ai d.inputs.length x.ci, .slice x.aw d.wires.length x.cw, .slice x.ar d.regs.length x.cr, .slice x.ao d.outputs.length x.co] 27)).alloc (.cells #[.slice none 0 0, .slice none 0 0] 40)).heap[w.heap.size + 1]? = some (.cells #[.slice none 0 0, .slice none 0 0] 40 (0, 0)) := heap_alloc_at _ _ _ (by simp)
  have HX := Lib.hid (⟨hx0, hx1⟩ : _ ∧ _)
  have HBA := Lib.hid hbA
  have HB1 := Lib.hid (HRe.out _ hbA)
  clear hbA HRe hE hs hI hG hx0 hx1
  go_enter Tryz.func18, Tryz.ntmps18
  go_wp2_with fail
  refine HB1.out.mono ?_
  rintro e w2 ⟨h, hb2⟩
  have HBw2 := Lib.hid (HBA.out.trans (hb2.mono HBA.out.size))
  have h30 : Hid (w2.heap[w.heap.size]? = some (.cells #[.string d.name, .slice x.ai d.inputs.length x.ci, .slice x.aw d.wires.length x.cw, .slice x.ar d.regs.length x.cr, .slice x.ao d.outputs.length x.co] 27 (0, 0))) := (hb2.block _ (lt_of_block HX.out.1)).trans HX.out.1
  have h31 : Hid (w2.heap[w.heap.size + 1]? = some (.cells #[.slice none 0 0, .slice none 0 0] 40 (0, 0))) := (hb2.block _ (lt_of_block HX.out.2)).trans HX.out.2
  have hz2 : w.heap.size + 2 ≤ w2.heap.size := by have := hb2.size; simpa using this
  have r0 := cell_of_blk h31.out 0
  have r1 := cell_of_blk h31.out 1
  simp at r0 r1
  have f0 : w2.frozen? ⟨w.heap.size + 1, 0, none⟩ = false := by simp [World.frozen?, h31.out]
  have f1 : w2.frozen? ⟨w.heap.size + 1, 1, none⟩ = false := by simp [World.frozen?, h31.out]
  clear hb2 HB1 HX HBA
  rcases h with ⟨he, a9, c9, rfl, hI9⟩ | ⟨he, rfl⟩
  rotate_left
  · have hne : (d.err != (0 : Int)) = true := by simpa using he
    have HPe := Lib.hid (fun W h => HP2.out W he h)
    clear he
    go_wp2_with fail
    refine bodyPost_ret (v := .tuple #[.agg #[.slice none 0 0, .slice none 0 0], .int .i64 d.err]) (rwave_res _ _ (w.heap.size + 1) _ _ _ (set2 h31.out) rfl rfl) rfl ?_
    exact HPe.out _ ((HBw2.out.setCell (by simp) _).setCell (by simp) _)
  have hN48 := hN48 he
  have HSt := Lib.hid (HSt.out he)
  have HP1 := Lib.hid (fun aN cN aR cR w' => HP1.out aN cN aR cR w' he)
  have HP3 := Lib.hid (fun w' => HP3.out w' he)
  have HI9 := Lib.hid hI9
  clear he HP2 hI9
  by_cases hm : 4096 < rows.length
  · have hgt : (4096 : Int) < rows.length := by omega
    have HPe := Lib.hid (fun W h => HP3.out W hm h)
    clear hm
    go_wp2_with fail
    refine bodyPost_ret (v := .tuple #[.agg #[.slice none 0 0, .slice none 0 0], .int .i64 2]) (rwave_res _ _ (w.heap.size + 1) _ _ _ (set2 h31.out) rfl rfl) rfl ?_
    exact HPe.out _ ((HBw2.out.setCell (by simp) _).setCell (by simp) _)
  have hgt : ¬ (4096 : Int) < rows.length := by omega
  have hm' : rows.length ≤ 4096 := by omega
  have HN1 := Lib.hid (HNm.out _ HBw2.out (by omega))
  have b0 := cell_of_blk h30.out 0
  have b1 := cell_of_blk h30.out 1
  have b2 := cell_of_blk h30.out 2
  have b3 := cell_of_blk h30.out 3
  have b4 := cell_of_blk h30.out 4
  simp at b0 b1 b2 b3 b4
  clear hm r0 r1 f0 f1
  go_wp2_with fail
  refine HN1.out.mono ?_
  rintro e w8 ⟨⟨aN, cN, rfl, hN⟩, hb8⟩
  clear b0 b1 b2 b3 b4
  have HB8w := Lib.hid (HBw2.out.trans (hb8.mono HBw2.out.size))
  have h80 : Hid (w8.heap[w.heap.size]? = some (.cells #[.string d.name, .slice x.ai d.inputs.length x.ci, .slice x.aw d.wires.length x.cw, .slice x.ar d.regs.length x.cr, .slice x.ao d.outputs.length x.co] 27 (0, 0))) := (hb8.block _ (lt_of_block h30.out)).trans h30.out
  have h81 : Hid (w8.heap[w.heap.size + 1]? = some (.cells #[.slice none 0 0, .slice none 0 0] 40 (0, 0))) := (hb8.block _ (lt_of_block h31.out)).trans h31.out
  have HN8 := Lib.hid hN
  have hz8 : w.heap.size + 2 ≤ w8.heap.size := by have := hb8.size; omega
  have hb9 : Below w2.heap.size w2 (w8.alloc (.cells #[.slice aN d.names.length cN, .slice none 0 0] 40)) := hb8.alloc hb8.size _
  have HIa := Lib.hid (HI9.out.keep (keeps_of_below hb9))
  have HBa : Hid (Below w8.heap.size w8 (w8.alloc (.cells #[.slice aN d.names.length cN, .slice none 0 0] 40))) := (Below.refl _ _).alloc (Nat.le_refl _) _
  have HWa : Hid ((w8.alloc (.cells #[.slice aN d.names.length cN, .slice none 0 0] 40)).heap[w8.heap.size]? = some (.cells #[.slice aN d.names.length cN, .slice none 0 0] 40 (0, 0))) := heap_alloc_at _ _ _ rfl
  have hsa : w8.heap.size + 1 ≤ (w8.alloc (.cells #[.slice aN d.names.length cN, .slice none 0 0] 40)).heap.size := by simp
  have HPa : Hid (RowsP (w8.alloc (.cells #[.slice aN d.names.length cN, .slice none 0 0] 40)) d rows w8.heap.size (Value.slice none 0 0).ownBlock 0 []) := ⟨rfl, fun t ht => by omega⟩
  clear hb8 hb9 hN HI9
  go_wp2_with fail
  go_loopw [9, 6, 10, 11, 12, 13, 14] (fun i st _ _ _ _ _ wr => ∃ k : Nat, i = .int .i64 k ∧ k ≤ rows.length ∧ Hid (∃ a c, st = .slice a d.regs.length c ∧ IntsIn wr (stN d rows k) a c) ∧ Hid (∃ v vs, wr.heap[w8.heap.size]? = some (.cells #[.slice aN d.names.length cN, v] 40 (0, 0)) ∧ wr.ownsRow (w8.heap.size + 1) 30 1 v k vs ∧ RowsP wr d rows w8.heap.size v.ownBlock k vs) ∧ Hid (Below w8.heap.size w8 wr) ∧ w8.heap.size + 1 ≤ wr.heap.size) (fun i _ _ _ _ _ _ _ => rows.length - (intOf i).toNat)
  case atStart => exact ⟨0, rfl, Nat.zero_le _, ⟨a9, c9, rfl, HIa.out⟩, ⟨_, [], HWa.out, World.ownsRow_nil _ _ _ _, HPa.out⟩, HBa, hsa⟩
  case round =>
    obtain ⟨k, rfl, hk, HSta, HWv, HB, hsr⟩ := hrel
    obtain ⟨aS, cs, rfl, hIs⟩ := HSta.out
    obtain ⟨v, vs, hW, hO, hP⟩ := HWv.out
    have HIs := Lib.hid hIs
    have HW := Lib.hid hW
    have HO := Lib.hid hO
    have HP := Lib.hid hP
    have HBw := Lib.hid (HB8w.out.trans (HB.out.mono HB8w.out.size))
    clear HSta HWv hIs hW hO hP
    have hkn : k ≤ 1073741824 := by omega
    obtain ⟨va, vc, hv, _⟩ := slice_of_own HO.out hkn
    subst hv
    by_cases hlt : k < rows.length
    · obtain ⟨b, off, ha⟩ := HIA.out.resolve_left (by omega)
      subst ha
      obtain ⟨ai, ci, c0, hSi⟩ := (HIn.out.keep (keeps_of_below HBw.out)).get rfl hlt
      have hgd : rows.getD k [] = rows[k]'hlt := by simp [hlt]
      have hrow : rowN d rows k = (settleS d (stN d rows k) (rows[k]'hlt)).map (·.2) := by unfold rowN; rw [hgd]
      have hnx : stN d rows (k + 1) = nextS d (settleS d (stN d rows k) (rows[k]'hlt)) := by show nextS _ _ = _; rw [hgd]
      have hsl : (settleS d (stN d rows k) (rows[k]'hlt)).length = d.names.length := settle_len _ (stN_len rows k)
      have HS1 := Lib.hid (fun W (hW : Below wr.heap.size wr W) => (HSt.out k (rows[k]'hlt) aS cs ai ci W (HBw.out.trans (hW.mono HBw.out.size)) (HIs.out.keep (keeps_of_below hW)) (hSi.keep (keeps_of_below hW))).mono (R' := fun e w' => (∃ a1 c1 a2 c2, e = .returned (.tuple #[.slice a1 d.regs.length c1, .slice a2 d.names.length c2, .int .i64 0]) ∧ IntsIn w' (nextS d (settleS d (stN d rows k) (rows[k]'hlt))) a1 c1 ∧ SigsIn w' (settleS d (stN d rows k) (rows[k]'hlt)) a2 c2 ∧ ∀ p, a1 = some p → wr.heap.size ≤ p.block) ∧ Below wr.heap.size wr w') (fun e w' h => ⟨by obtain ⟨a1, c1, a2, c2, g1, g2, g3, g4⟩ := h.1; exact ⟨a1, c1, a2, c2, g1, g2, g3, fun p hp => Nat.le_trans hW.size (g4 p hp)⟩, hW.trans (h.2.mono hW.size)⟩))
      have h90 : Hid (wr.heap[w.heap.size]? = some (.cells #[.string d.name, .slice x.ai d.inputs.length x.ci, .slice x.aw d.wires.length x.cw, .slice x.ar d.regs.length x.cr, .slice x.ao d.outputs.length x.co] 27 (0, 0))) := (HB.out.block _ (by omega)).trans h80.out
      have HALLk : Hid (∀ w', Below wr.heap.size wr w' → w'.cell? ⟨w.heap.size, 0, none⟩ = some (.string d.name) ∧ w'.cell? ⟨w.heap.size, 1, none⟩ = some (.slice x.ai d.inputs.length x.ci) ∧ w'.cell? ⟨w.heap.size, 2, none⟩ = some (.slice x.aw d.wires.length x.cw) ∧ w'.cell? ⟨w.heap.size, 3, none⟩ = some (.slice x.ar d.regs.length x.cr) ∧ w'.cell? ⟨w.heap.size, 4, none⟩ = some (.slice x.ao d.outputs.length x.co) ∧ w'.cell? ⟨b, off + k, none⟩ = some (.slice ai (rows[k]'hlt).length ci)) := fun w' h => by
        have kk := keeps_of_below h
        have b0 := cell_of_blk h90.out 0
        have b1 := cell_of_blk h90.out 1
        have b2 := cell_of_blk h90.out 2
        have b3 := cell_of_blk h90.out 3
        have b4 := cell_of_blk h90.out 4
        simp at b0 b1 b2 b3 b4
        exact ⟨kk _ _ b0, kk _ _ b1, kk _ _ b2, kk _ _ b3, kk _ _ b4, kk _ _ c0⟩
      generalize (rows[k]'hlt) = inp at HALLk hrow hnx hsl HS1
      have Hrow := Lib.hid hrow
      have Hnx := Lib.hid hnx
      have Hsl := Lib.hid hsl
      clear hgd hSi hrow hnx hsl c0
      generalize nextS d (settleS d (stN d rows k) inp) = NX at HS1 Hnx
      generalize settleS d (stN d rows k) inp = SE at HS1 Hrow Hsl
      have hkl : (k : Int) < rows.length := by omega
      obtain ⟨b0, b1, b2, b3, b4, c0⟩ := HALLk.out _ (Below.refl _ _)
      have hB0 : Below wr.heap.size wr wr := Below.refl _ _
      go_wp2_with fail
      go_region_held3 (fun w' => Below wr.heap.size wr w' ∧ w'.cell? ⟨w.heap.size, 0, none⟩ = some (.string d.name) ∧ w'.cell? ⟨w.heap.size, 1, none⟩ = some (.slice x.ai d.inputs.length x.ci) ∧ w'.cell? ⟨w.heap.size, 2, none⟩ = some (.slice x.aw d.wires.length x.cw) ∧ w'.cell? ⟨w.heap.size, 3, none⟩ = some (.slice x.ar d.regs.length x.cr) ∧ w'.cell? ⟨w.heap.size, 4, none⟩ = some (.slice x.ao d.outputs.length x.co) ∧ w'.cell? ⟨b, off + k, none⟩ = some (.slice ai inp.length ci))
        ((refine (fun h => ⟨h, HALLk.out _ h⟩) ?_; first | assumption | exact (by repeat (first | assumption | exact Below.refl _ _ | refine Below.drew ?_ | refine below_drewN ?_ _ | refine Below.alloc ?_ (by first | omega | (simp only [World.size_alloc, World.size_setCell, World.size_drew, World.heap_drewN] <;> omega) | (simp <;> omega)) _ | refine Below.setCell ?_ (by first | omega | (simp only [World.size_alloc, World.size_setCell, World.size_drew, World.heap_drewN] <;> omega) | (simp <;> omega)) _))))
        ((go_at_call 30; (with_reducible refine (HS1.out _ (by first | assumption | exact And.left (by assumption) | exact (by repeat (first | assumption | exact Below.refl _ _ | refine Below.drew ?_ | refine below_drewN ?_ _ | refine Below.alloc ?_ (by first | omega | (simp only [World.size_alloc, World.size_setCell, World.size_drew, World.heap_drewN] <;> omega) | (simp <;> omega)) _ | refine Below.setCell ?_ (by first | omega | (simp only [World.size_alloc, World.size_setCell, World.size_drew, World.heap_drewN] <;> omega) | (simp <;> omega)) _)))).mono ?_); rintro r w5 ⟨⟨a6, c6, a5, c5, rfl, hI6, hS5, hF6⟩, hb5⟩; (have HI6 := Lib.hid hI6); (have HF6 := Lib.hid hF6); (have HS5 := Lib.hid hS5); (have HA5 := Lib.hid hS5.addr)))
      have hb5' : Below wr.heap.size wr w5 := by first | assumption | exact (by assumption : Below wr.heap.size wr w5 ∧ _ ∧ _).1
      have Hb5 := Lib.hid hb5'
      have HB5 := Lib.hid (HB.out.trans (hb5'.mono HB.out.size))
      have HW5 : Hid (w5.heap[w8.heap.size]? = some (.cells #[.slice aN d.names.length cN, .slice va k vc] 40 (0, 0))) := (hb5'.block _ (lt_of_block HW.out)).trans HW.out
      have HO5 := Lib.hid (ownsRow_below HO.out hb5')
      have HP5 := Lib.hid (HP.out.keep hb5')
      have hs5 : wr.heap.size ≤ w5.heap.size := hb5'.size
      have hRl : (rowN d rows k).length = d.names.length := rowN_len rows k
      have HRt : Hid (∀ j (hj : j < SE.length), ((rowN d rows k).map (Value.int .i64)).take (j + 1) = ((rowN d rows k).map (Value.int .i64)).take j ++ [.int .i64 (SE[j]'hj).2]) := fun j hj => by
        rw [rowN_take d rows k j (by rw [hRl, ← Hsl.out]; exact hj)]
        simp [Hrow.out]
      have HG0 : Hid (Below w5.heap.size w5 w5) := Below.refl _ _
      clear b0 b1 b2 b3 b4 c0 hB0 hb5'
      go_wp2_with fail
      go_loopw [14, 13] (fun i v wi => ∃ j : Nat, i = .int .i64 j ∧ j ≤ d.names.length ∧ Hid (wi.ownsRow w5.heap.size 3 1 v j (((rowN d rows k).map (Value.int .i64)).take j)) ∧ Hid (Below w5.heap.size w5 wi)) (fun i _ _ => d.names.length - (intOf i).toNat)
      case atStart => exact ⟨0, rfl, Nat.zero_le _, World.ownsRow_nil _ _ _ _, HG0⟩
      case round =>
        rename World => wi
        obtain ⟨j, rfl, hj, HOi, HGi⟩ := hrel
        have hsi := HGi.out.size
        have hjn : j ≤ 1073741824 := by omega
        obtain ⟨ua, uc, hu, _⟩ := slice_of_own HOi.out hjn
        subst hu
        by_cases hjl : j < d.names.length
        · have hjS : j < SE.length := by rw [Hsl.out]; exact hjl
          obtain ⟨bs, os, ha5⟩ := HA5.out.resolve_left (by omega)
          subst ha5
          obtain ⟨s0, s1⟩ := (HS5.out.keep (keeps_of_below HGi.out)).get rfl hjS
          have HRj := Lib.hid (HRt.out j hjS)
          generalize (SE[j]'hjS) = e at s0 s1 HRj
          have hjn2 : (j : Int) < d.names.length := by omega
          go_wp2_with (at_builtin; go_must (refine own_app elemI _ rfl (.tmp 59) (.tmp 65) rfl w5.heap.size (.slice ua j uc) j (((rowN d rows k).map (Value.int .i64)).take j) rfl HOi.out [.int .i64 e.2] rfl (by simp [Value.oneCell']) _ 1 rfl (by first | rfl | simp) hjn (by omega) ?_))
          intro v' w7 ho hg
          have HOn : Hid (w7.ownsRow w5.heap.size 3 1 v' (j + 1) (((rowN d rows k).map (Value.int .i64)).take (j + 1))) := by show World.ownsRow _ _ _ _ _ _ _; rw [HRj.out]; exact ho
          have HGn : Hid (Below w5.heap.size w5 w7) := Below.grown (HGi.out.alloc (by omega) _) hg (by rw [World.size_alloc]; omega) (fun q hq => (HOi.out.lt q hq).1)
          clear ho hg s0 s1
          go_wp2_with fail
          go_roundw
          case rel => exact ⟨j + 1, by go_num, by omega, HOn, HGn⟩
          case measure => (simp [intOf]; try omega)
        · obtain rfl : j = d.names.length := by omega
          have hoi := HOi.out
          rw [List.take_of_length_le (by rw [List.length_map, hRl]; omega), ← hRl] at hoi
          obtain ⟨a', cap', hv, hRi⟩ := ints_of_own hoi (by omega)
          rw [hRl] at hv
          simp only [Value.slice.injEq, true_and] at hv
          obtain ⟨rfl, rfl⟩ := hv
          have HRi := Lib.hid hRi
          have hWi : Hid (wi.heap[w8.heap.size]? = some (.cells #[.slice aN d.names.length cN, .slice va k vc] 40 (0, 0))) := (HGi.out.block _ (lt_of_block HW5.out)).trans HW5.out
          have HOu := Lib.hid (ownsRow_below HO5.out HGi.out)
          have HPi := Lib.hid (HP5.out.keep HGi.out)
          have HBi := Lib.hid (HB5.out.trans (HGi.out.mono HB5.out.size))
          have HI6i := Lib.hid (HI6.out.keep (keeps_of_below HGi.out))
          have e0 := cell_of_blk hWi.out 0
          have e1 := cell_of_blk hWi.out 1
          simp at e0 e1
          clear hoi hRi
          go_wp2_with (at_builtin; go_must (refine own_appx elemRw _ rfl (.tmp 68) (.tmp 70) rfl (w8.heap.size + 1) (.slice va k vc) k vs rfl HOu.out [.slice ua d.names.length uc] 1 _ _ rfl (by simp [Value.oneCell']) (by first | rfl | simp) rfl (by omega) (by omega) (by omega) ?_))
          intro g cv w7 ho hg hat
          have hal : ∀ c, c < wi.heap.size → (wi.alloc (.cells #[.slice ua d.names.length uc] 30)).heap[c]? = wi.heap[c]? := fun c hc => Below.heap_alloc _ _ _ hc
          have hoW : (Value.slice va k vc).ownBlock ≠ some w8.heap.size := fun h => (ownsRow_ne HOu.out hWi.out (by decide)) h.symm
          have h7W : w7.heap[w8.heap.size]? = some (.cells #[.slice aN d.names.length cN, .slice va k vc] 40 (0, 0)) := (hg.block _ (by rw [World.size_alloc]; omega) (fun e => hoW e.symm)).trans ((hal _ (by omega)).trans hWi.out)
          have g1 := cell_of_blk h7W 1
          simp at g1
          have gf : w7.frozen? ⟨w8.heap.size, 1, none⟩ = false := by simp [World.frozen?, h7W]
          have hsz : wi.heap.size + 1 ≤ w7.heap.size := by have := hg.size; rw [World.size_alloc] at this; exact this
          have hself : ∀ q, q < wi.heap.size → (Value.slice va k vc).ownBlock ≠ some q → w8.heap.size < q → (w7.setCell ⟨w8.heap.size, 1, none⟩ (.slice (some ⟨g, 0, none⟩) (k + 1) cv)).heap[q]? = wi.heap[q]? := fun q hq hne hb => (heap_setCell_other _ _ _ _ (show q ≠ w8.heap.size by omega)).trans ((hg.block _ (by rw [World.size_alloc]; omega) (fun e => hne e.symm)).trans (hal _ hq))
          have hown2 : ∀ q, q < wi.heap.size → (Value.slice va k vc).ownBlock ≠ some q → (Value.slice (some ⟨g, 0, none⟩) (k + 1) cv).ownBlock ≠ some q := fun q hq hne e => by
            have e' : g = q := by simpa [Value.ownBlock] using e
            subst e'
            rcases hat with h | h
            · exact hne h
            · omega
          have HW7 : Hid ((w7.setCell ⟨w8.heap.size, 1, none⟩ (.slice (some ⟨g, 0, none⟩) (k + 1) cv)).heap[w8.heap.size]? = some (.cells #[.slice aN d.names.length cN, .slice (some ⟨g, 0, none⟩) (k + 1) cv] 40 (0, 0))) := by show _ = _; rw [heap_setCell_same _ _ 1 _ _ _ h7W]; rfl
          have HO7 : Hid ((w7.setCell ⟨w8.heap.size, 1, none⟩ (.slice (some ⟨g, 0, none⟩) (k + 1) cv)).ownsRow (w8.heap.size + 1) 30 1 (.slice (some ⟨g, 0, none⟩) (k + 1) cv) (k + 1) (vs ++ [.slice ua d.names.length uc])) := ownsRow_store ho h7W (by decide) 1 (.slice (some ⟨g, 0, none⟩) (k + 1) cv)
          have hua : ∀ p : Addr, ua = some p → p.block < wi.heap.size ∧ (Value.slice va k vc).ownBlock ≠ some p.block ∧ w8.heap.size < p.block := fun p hp => by
            subst hp
            have h1 := HOi.out.lt p.block rfl
            exact ⟨h1.2, fun e => by have := (HO.out.lt _ e).2; omega, by omega⟩
          have HP7 : Hid (RowsP (w7.setCell ⟨w8.heap.size, 1, none⟩ (.slice (some ⟨g, 0, none⟩) (k + 1) cv)) d rows w8.heap.size (Value.slice (some ⟨g, 0, none⟩) (k + 1) cv).ownBlock (k + 1) (vs ++ [.slice ua d.names.length uc])) := (HPi.out.push HRi.out hua).heap (by rw [World.size_setCell]; omega) hself hown2
          have HB7 : Hid (Below w8.heap.size w8 (w7.setCell ⟨w8.heap.size, 1, none⟩ (.slice (some ⟨g, 0, none⟩) (k + 1) cv))) := (Below.grown (HBi.out.alloc (by omega) _) hg (by rw [World.size_alloc]; omega) (fun j hj => by have := (HOu.out.lt _ hj).1; omega)).setCell (Nat.le_refl _) _
          have HI7 : Hid (∃ a c, Value.slice a6 d.regs.length c6 = .slice a d.regs.length c ∧ IntsIn (w7.setCell ⟨w8.heap.size, 1, none⟩ (.slice (some ⟨g, 0, none⟩) (k + 1) cv)) (stN d rows (k + 1)) a c) := ⟨a6, c6, rfl, by rw [Hnx.out]; exact HI6i.out.heap (fun p hp hps => hself _ hps (fun e => by have h1 := (HO.out.lt _ e).2; have h2 := HF6.out p hp; omega) (by have h2 := HF6.out p hp; omega))⟩
          have HWn : Hid (∃ v vs, (w7.setCell ⟨w8.heap.size, 1, none⟩ (.slice (some ⟨g, 0, none⟩) (k + 1) cv)).heap[w8.heap.size]? = some (.cells #[.slice aN d.names.length cN, v] 40 (0, 0)) ∧ (w7.setCell ⟨w8.heap.size, 1, none⟩ (.slice (some ⟨g, 0, none⟩) (k + 1) cv)).ownsRow (w8.heap.size + 1) 30 1 v (k + 1) vs ∧ RowsP (w7.setCell ⟨w8.heap.size, 1, none⟩ (.slice (some ⟨g, 0, none⟩) (k + 1) cv)) d rows w8.heap.size v.ownBlock (k + 1) vs) := ⟨_, _, HW7.out, HO7.out, HP7.out⟩
          have hs7 : w8.heap.size + 1 ≤ (w7.setCell ⟨w8.heap.size, 1, none⟩ (.slice (some ⟨g, 0, none⟩) (k + 1) cv)).heap.size := by rw [World.size_setCell]; omega
          clear e0 e1 ho hg hat hal hoW h7W hself hown2 hua hsz
          go_wp2_with fail
          go_roundw
          case rel => exact ⟨k + 1, by go_num, by omega, HI7, HWn, HB7, hs7⟩
          case measure => (simp [intOf]; try omega)
    · obtain rfl : k = rows.length := by omega
      have e0 := cell_of_blk HW.out 0
      have e1 := cell_of_blk HW.out 1
      simp at e0 e1
      have hR : Hid (wr.heap[w.heap.size + 1]? = some (.cells #[.slice none 0 0, .slice none 0 0] 40 (0, 0))) := (HB.out.block _ (by omega)).trans h81.out
      have r0 := cell_of_blk hR.out 0
      have r1 := cell_of_blk hR.out 1
      simp at r0 r1
      have f0 : wr.frozen? ⟨w.heap.size + 1, 0, none⟩ = false := by simp [World.frozen?, hR.out]
      have f1 : wr.frozen? ⟨w.heap.size + 1, 1, none⟩ = false := by simp [World.frozen?, hR.out]
      have hne1 : w8.heap.size ≠ w.heap.size + 1 := by omega
      go_wp2_with fail
      refine bodyPost_ret (v := .tuple #[.agg #[.slice aN d.names.length cN, .slice va rows.length vc], .int .i64 0]) (rwave_res _ _ (w.heap.size + 1) _ _ _ (set2 hR.out) rfl rfl) rfl ?_
      have hR1 : (wr.setCell ⟨w.heap.size + 1, 0, none⟩ (.slice aN d.names.length cN)).heap[w.heap.size + 1]? = some (.cells #[.slice aN d.names.length cN, .slice none 0 0] 40 (0, 0)) := by rw [heap_setCell_same _ _ 0 _ _ _ hR.out]; rfl
      have hO2 := ownsRow_store (ownsRow_store HO.out hR.out (by decide) 0 (.slice aN d.names.length cN)) hR1 (by decide) 1 (.slice va rows.length vc)
      have hP2 : RowsP ((wr.setCell ⟨w.heap.size + 1, 0, none⟩ (.slice aN d.names.length cN)).setCell ⟨w.heap.size + 1, 1, none⟩ (.slice va rows.length vc)) d rows w8.heap.size (Value.slice va rows.length vc).ownBlock rows.length vs := HP.out.heap (by rw [World.size_setCell, World.size_setCell]; omega) (fun q hq _ hb => (heap_setCell_other _ _ _ _ (show q ≠ w.heap.size + 1 by omega)).trans (heap_setCell_other _ _ _ _ (show q ≠ w.heap.size + 1 by omega))) (fun _ _ h => h)
      obtain ⟨aR, cR, hv, hRD⟩ := rows_of_P hO2 rfl (by omega) hP2
      simp only [Value.slice.injEq, true_and] at hv
      obtain ⟨rfl, rfl⟩ := hv
      refine HP1.out aN cN va vc _ hm' ?_ hRD (((HBw.out.setCell (show w.heap.size ≤ w.heap.size + 1 by omega) _)).setCell (show w.heap.size ≤ w.heap.size + 1 by omega) _)
      refine (HN8.out.keep (keeps_of_below HB.out)).mono fun i b o hi ⟨n, h1, h2⟩ => ⟨n, h1, ?_⟩
      have hbn : b ≠ w.heap.size + 1 := fun e => by
        subst e
        rw [cell_of_blk hR.out] at h2
        rcases o with _ | _ | o <;> simp at h2
      rw [World.cell?_setCell_other _ _ _ _ (fun e => hbn (congrArg Addr.block e).symm), World.cell?_setCell_other _ _ _ _ (fun e => hbn (congrArg Addr.block e).symm)]
      exact h2
end Go.Proofs.YteaeemkodbodmaaGreatDoor

/- law32: same. -/
namespace Go.Proofs.YteaeemkodbodmaaGreatDoor
open Go.RowKit
attribute [local go_sem ↓] Go.wp_at_zero Go.wp_at_succ

set_option maxRecDepth 100000 in
set_option maxHeartbeats 8000000 in
theorem same_eq (N : List ByteArray) (R : List (List Int)) (a1 : Option Addr) (c1 : Nat) (r1 : Option Addr) (d1 : Nat) (a2 : Option Addr) (c2 : Nat) (r2 : Option Addr) (d2 : Nat) (w : World)
    (h1 : StrsIn w N a1 c1) (g1 : RowsD w R r1 d1) (h2 : StrsIn w N a2 c2) (g2 : RowsD w R r2 d2) :
    Calls Tryz.prog 19 #[.agg #[.slice a1 N.length c1, .slice r1 R.length d1], .agg #[.slice a2 N.length c2, .slice r2 R.length d2]] w fun e w' => e = .returned (.bool true) ∧ Below w.heap.size w w' := by
  have hNl := h1.2.1
  have hRl := g1.2.1
  have H1 := Lib.hid h1
  have H2 := Lib.hid h2
  have G1 := Lib.hid g1
  have G2 := Lib.hid g2
  have HA1 := Lib.hid h1.addr
  have HA2 := Lib.hid h2.addr
  have GA1 := Lib.hid g1.addr
  have GA2 := Lib.hid g2.addr
  have hbA : Below w.heap.size w ((w.alloc (.cells #[.slice a1 N.length c1, .slice r1 R.length d1] 40)).alloc (.cells #[.slice a2 N.length c2, .slice r2 R.length d2] 40)) := (by repeat (first | assumption | exact Below.refl _ _ | refine Below.drew ?_ | refine below_drewN ?_ _ | refine Below.alloc ?_ (by first | omega | (simp only [World.size_alloc, World.size_setCell, World.size_drew, World.heap_drewN] <;> omega) | (simp <;> omega)) _ | refine Below.setCell ?_ (by first | omega | (simp only [World.size_alloc, World.size_setCell, World.size_drew, World.heap_drewN] <;> omega) | (simp <;> omega)) _))
  have hx0 : ((w.alloc (.cells #[.slice a1 N.length c1, .slice r1 R.length d1] 40)).alloc (.cells #[.slice a2 N.length c2, .slice r2 R.length d2] 40)).heap[w.heap.size]? = some (.cells #[.slice a1 N.length c1, .slice r1 R.length d1] 40 (0, 0)) := by rw [Below.heap_alloc _ _ _ (by simp)]; exact heap_alloc_at _ _ _ rfl
  have hx1 : ((w.alloc (.cells #[.slice a1 N.length c1, .slice r1 R.length d1] 40)).alloc (.cells #[.slice a2 N.length c2, .slice r2 R.length d2] 40)).heap[w.heap.size + 1]? = some (.cells #[.slice a2 N.length c2, .slice r2 R.length d2] 40 (0, 0)) := heap_alloc_at _ _ _ (by simp)
  have HX := Lib.hid (⟨hbA, hx0, hx1⟩ : _ ∧ _ ∧ _)
  clear hbA hx0 hx1 h1 h2 g1 g2
  obtain ⟨wb, hwb⟩ : ∃ wb, wb = ((w.alloc (.cells #[.slice a1 N.length c1, .slice r1 R.length d1] 40)).alloc (.cells #[.slice a2 N.length c2, .slice r2 R.length d2] 40)) := ⟨_, rfl⟩
  rw [← hwb] at HX
  have HALL : Hid (∀ w', Below wb.heap.size wb w' → Below w.heap.size w w' ∧ w'.cell? ⟨w.heap.size, 0, none⟩ = some (.slice a1 N.length c1) ∧ w'.cell? ⟨w.heap.size, 1, none⟩ = some (.slice r1 R.length d1) ∧ w'.cell? ⟨w.heap.size + 1, 0, none⟩ = some (.slice a2 N.length c2) ∧ w'.cell? ⟨w.heap.size + 1, 1, none⟩ = some (.slice r2 R.length d2)) := fun w' h => by
    have x0 := (h.block _ (lt_of_block HX.out.2.1)).trans HX.out.2.1
    have x1 := (h.block _ (lt_of_block HX.out.2.2)).trans HX.out.2.2
    have c0 := cell_of_blk x0 0
    have c1 := cell_of_blk x0 1
    have c2 := cell_of_blk x1 0
    have c3 := cell_of_blk x1 1
    simp at c0 c1 c2 c3
    exact ⟨HX.out.1.trans (h.mono HX.out.1.size), c0, c1, c2, c3⟩
  have HB0 : Hid (Below wb.heap.size wb wb) := Below.refl _ _
  have hnn : ((N.length : Int) != (N.length : Int)) = false := by simp
  go_enter Tryz.func19, Tryz.ntmps19
  go_wp2_with fail
  rw [← hwb]
  clear hwb
  obtain ⟨_, b0, b1, b2, b3⟩ := HALL.out _ HB0.out
  go_wp2_with fail
  go_loopw [5] (fun i wr => ∃ k : Nat, i = .int .i64 k ∧ k ≤ N.length ∧ Hid (Below wb.heap.size wb wr)) (fun i _ => N.length - (intOf i).toNat)
  case atStart => exact ⟨0, rfl, Nat.zero_le _, HB0⟩
  case round =>
    obtain ⟨k, rfl, hk, HB⟩ := hrel
    clear b0 b1 b2 b3
    obtain ⟨hBw, b0, b1, b2, b3⟩ := HALL.out _ HB.out
    have HBw := Lib.hid hBw
    clear hBw
    by_cases hlt : k < N.length
    · obtain ⟨b, off, ha⟩ := HA1.out.resolve_left (by omega)
      obtain ⟨b', off', ha'⟩ := HA2.out.resolve_left (by omega)
      have c0 := (H1.out.keep (keeps_of_below HBw.out)).get ha hlt
      have c2 := (H2.out.keep (keeps_of_below HBw.out)).get ha' hlt
      rw [ha] at b0
      rw [ha'] at b2
      generalize (N[k]'hlt) = s at c0 c2
      have hkl : (k : Int) < N.length := by omega
      clear ha ha'
      go_wp2_with fail
      go_quiet (fail)
      go_wp2_with fail
      go_roundw
      case rel => exact ⟨k + 1, by go_num, by omega, below_drewN HB.out _⟩
      case measure => (simp [intOf]; try omega)
    · obtain rfl : k = N.length := by omega
      go_wp2_with fail
      go_loopw [6] (fun i wr => ∃ k : Nat, i = .int .i64 k ∧ k ≤ R.length ∧ Hid (Below wb.heap.size wb wr)) (fun i _ => R.length - (intOf i).toNat)
      case atStart => exact ⟨0, rfl, Nat.zero_le _, HB⟩
      case round =>
        rename World => wr
        obtain ⟨k, rfl, hk, HB⟩ := hrel
        clear b0 b1 b2 b3
        obtain ⟨hBw, b0, b1, b2, b3⟩ := HALL.out _ HB.out
        have HBw := Lib.hid hBw
        clear hBw
        by_cases hlt : k < R.length
        · obtain ⟨b, off, ha⟩ := GA1.out.resolve_left (by omega)
          obtain ⟨b', off', ha'⟩ := GA2.out.resolve_left (by omega)
          obtain ⟨s1, e1, c0, hI1⟩ := (G1.out.keep (keeps_of_below HBw.out)).get ha hlt
          obtain ⟨s2, e2, c2, hI2⟩ := (G2.out.keep (keeps_of_below HBw.out)).get ha' hlt
          rw [ha] at b1
          rw [ha'] at b3
          have HALLk : Hid (∀ w', Below wr.heap.size wr w' → w'.cell? ⟨w.heap.size, 1, none⟩ = some (.slice (some ⟨b, off, none⟩) R.length d1) ∧ w'.cell? ⟨w.heap.size + 1, 1, none⟩ = some (.slice (some ⟨b', off', none⟩) R.length d2) ∧ w'.cell? ⟨b, off + k, none⟩ = some (.slice s1 (R[k]'hlt).length e1) ∧ w'.cell? ⟨b', off' + k, none⟩ = some (.slice s2 (R[k]'hlt).length e2)) := fun w' h => by
            have kk := keeps_of_below h
            exact ⟨kk _ _ b1, kk _ _ b3, kk _ _ c0, kk _ _ c2⟩
          have HCk := Lib.hid (fun W (hW : Below wr.heap.size wr W) => (sameInts_eq (R[k]'hlt) s1 e1 s2 e2 W (hI1.keep (keeps_of_below hW)) (hI2.keep (keeps_of_below hW))).mono (R' := fun e w' => e = .returned (.bool true) ∧ Below wr.heap.size wr w') (fun e w' h => ⟨h.1, hW.trans (h.2.mono hW.size)⟩))
          generalize (R[k]'hlt) = L at HALLk HCk c0 c2
          have hkl : (k : Int) < R.length := by omega
          have hB0 : Below wr.heap.size wr wr := Below.refl _ _
          clear ha ha' hI1 hI2
          go_wp2_with fail
          go_region_held3 (fun w' => Below wr.heap.size wr w' ∧ w'.cell? ⟨w.heap.size, 1, none⟩ = some (.slice (some ⟨b, off, none⟩) R.length d1) ∧ w'.cell? ⟨w.heap.size + 1, 1, none⟩ = some (.slice (some ⟨b', off', none⟩) R.length d2) ∧ w'.cell? ⟨b, off + k, none⟩ = some (.slice s1 L.length e1) ∧ w'.cell? ⟨b', off' + k, none⟩ = some (.slice s2 L.length e2))
            ((refine (fun h => ⟨h, HALLk.out _ h⟩) ?_; first | assumption | exact (by repeat (first | assumption | exact Below.refl _ _ | refine Below.drew ?_ | refine below_drewN ?_ _ | refine Below.alloc ?_ (by first | omega | (simp only [World.size_alloc, World.size_setCell, World.size_drew, World.heap_drewN] <;> omega) | (simp <;> omega)) _ | refine Below.setCell ?_ (by first | omega | (simp only [World.size_alloc, World.size_setCell, World.size_drew, World.heap_drewN] <;> omega) | (simp <;> omega)) _))))
            ((go_at_call 14; (with_reducible refine (HCk.out _ (by first | assumption | exact And.left (by assumption) | exact (by repeat (first | assumption | exact Below.refl _ _ | refine Below.drew ?_ | refine below_drewN ?_ _ | refine Below.alloc ?_ (by first | omega | (simp only [World.size_alloc, World.size_setCell, World.size_drew, World.heap_drewN] <;> omega) | (simp <;> omega)) _ | refine Below.setCell ?_ (by first | omega | (simp only [World.size_alloc, World.size_setCell, World.size_drew, World.heap_drewN] <;> omega) | (simp <;> omega)) _)))).mono ?_); rintro r w5 ⟨rfl, hb5⟩))
          have hb5' : Below wr.heap.size wr w5 := by first | assumption | exact (by assumption : Below wr.heap.size wr w5 ∧ _ ∧ _).1
          have HB5 := Lib.hid (HB.out.trans (hb5'.mono HB.out.size))
          clear b0 b1 b2 b3 c0 c2 hB0 hb5'
          go_wp2_with fail
          go_roundw
          case rel => exact ⟨k + 1, by go_num, by omega, HB5⟩
          case measure => (simp [intOf]; try omega)
        · obtain rfl : k = R.length := by omega
          go_wp2_with fail
          go_ret
          exact ⟨rfl, HBw.out⟩
end Go.Proofs.YteaeemkodbodmaaGreatDoor
