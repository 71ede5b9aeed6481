/- ref22: Rules, the walk. -/
import Derived.Test.YtgdphjgedhadoaaGreatDoorSK
import Derived.Test.YtgdphjgedhadoaaGreatDoorSG
import Derived.Deep.RegionHeld3
import Derived.Deep.CutRange
import Derived.Test.YtgdphjgedhadoaaGreatDoorSH
set_option linter.unusedSimpArgs false
set_option linter.unusedVariables false
set_option linter.unnecessarySimpa false
namespace Go.Proofs.YtgdphjgedhadoaaGreatDoor
open Go.RowKit
attribute [local go_sem ↓] Go.wp_at_zero Go.wp_at_succ

/-- a row of expressions that the call has built, or an empty literal -/
def LRow (B : Nat) (w : World) (v : Value) (l : List Ex) : Prop := ∃ xs, Loose w B v l.length xs ∧ ExRowOn (fun k => v.ownBlock ≠ some k) w l xs ∧ ∀ g, v.ownBlock = some g → B ≤ g
set_option maxRecDepth 100000 in
set_option maxHeartbeats 16000000 in
theorem r22Rules_any (p : ProbD) (x : ProbA) (w : World) (hE : ProbIn w p x) (hs : ProbSmall p) (hd : p.dists.length ≤ 1048576) (hh : p.hard.length ≤ 1000) (hso : p.soft.length ≤ 1000) (hsu : ProbOk p → Rok p (suppsE p)) :
    Calls Tryz.prog 38 #[probVal p x] w fun e w' => RulRet p w e w' := by
  have HK0 := Lib.hid (fun W (hW : Below w.heap.size w W) => r22Kept_any p x W (hE.keep (keeps_of_below hW)) hs hd hh hso hsu)
  have HSu0 := Lib.hid (fun (hp : ProbOk p) W (hW : Below w.heap.size w W) => (r22Support_any p x W (hE.keep (keeps_of_below hW)) hs).mono (R' := fun e w' => ∃ z a cap, z = W.heap.size ∧ e = .returned (.slice a (suppsE p).length cap) ∧ ExsOff (fun k => z ≤ k ∧ k < w'.heap.size) w' (suppsE p) a cap ∧ Below W.heap.size W w') (fun e w' ⟨l, a, cap, h1, h2, h3, _, h4⟩ => by
    obtain rfl := h3 hp
    exact ⟨_, a, cap, rfl, h1, h2.narrow (fun k h5 h6 => ⟨h5, h6⟩), h4⟩))
  have HKR : Hid (∀ w0 r w', KeptRet p w0 r w' → ∃ a cap, r = .returned (.tuple #[.slice a (keptI p).length cap, .int .i64 (keptErr p)]) ∧ IntsIn w' (keptI p) a cap ∧ Below w0.heap.size w0 w') := fun _ _ _ h => h
  have HOk : Hid (keptErr p = 0 → ProbOk p) := ok_of_err
  have HRn : Hid (¬ keptErr p = 0 → ∀ w', Below w.heap.size w w' → RulRet p w (.returned (.tuple #[.slice none 0 0, .int .i64 (keptErr p)])) w') := fun h w' hb => by
    have h1 : rulesL p = [] := if_neg h
    exact ⟨none, 0, by rw [h1]; rfl, by rw [h1]; exact exsIn_nil w', hb⟩
  have HRy : Hid (keptErr p = 0 → ∀ w' a c, ExsIn w' (rulesTo p (keptI p).length) a c → Below w.heap.size w w' → RulRet p w (.returned (.tuple #[.slice a (rulesTo p (keptI p).length).length c, .int .i64 0])) w') := fun h w' a c hI hb => by
    have h1 : rulesL p = rulesTo p (keptI p).length := if_pos h
    exact ⟨a, c, by rw [h1, h], by rw [h1]; exact hI, hb⟩
  have HR0 : Hid (rulesTo p 0 = p.hard ++ suppsE p) := by show _ = _; unfold rulesTo; simp
  have HRs := Lib.hid (fun k (h : k < (keptI p).length) => rulesTo_succ h)
  have HRg := Lib.hid (fun n (h : n ∈ keptI p) => kept_range h)
  have HSe := Lib.hid (fun n j (h : j < p.soft.length) (hn : n = (j : Int)) => softAt_eq h hn)
  have hkl := kept_len p
  have HRl : Hid (∀ k, k ≤ (keptI p).length → (rulesTo p k).length ≤ 1060000) := fun k hk => by
    have h1 : (rulesTo p k).length = (p.hard ++ suppsE p).length + k := by unfold rulesTo; rw [List.length_append, List.length_map, List.length_take]; omega
    rw [h1, List.length_append]
    unfold suppsE
    rw [List.length_map]
    omega
  have HSI := Lib.hid hE.soft
  have HHI := Lib.hid hE.hard
  have hsll : (suppsE p).length ≤ 1048576 := by unfold suppsE; rw [List.length_map]; exact hd
  have hhl := hh
  generalize suppsE p = sl at HSu0 HR0 hsll
  clear hE hs hd hh hsu
  generalize keptI p = LA at *
  generalize rulesTo p = RT at *
  generalize keptErr p = err at *
  generalize softAt p = SA at *
  generalize KeptRet p = KR at *
  generalize hOK : ProbOk p = OKp at *
  simp only [probVal_eq] at HK0 HSu0 ⊢
  obtain ⟨vs, hard, soft, ds, gs⟩ := p
  obtain ⟨av, cv, ah, ch, ao, co, ad, cd, ag, cg⟩ := x
  simp only at HK0 HSu0 HR0 HHI hhl HSI HRg HSe hkl hso ⊢
  clear hOK
  have HK := Lib.hid (HK0.out (w.alloc (.cells #[.slice av vs.length cv, .slice ah hard.length ch, .slice ao soft.length co, .slice ad ds.length cd, .slice ag gs.length cg] 27)) ((Below.refl _ _).alloc (Nat.le_refl _) _))
  clear HK0
  go_enter Tryz.func38, Tryz.ntmps38
  go_wp2_with fail
  refine HK.out.mono ?_
  rintro r w1 hr
  obtain ⟨aa, ca, rfl, hIA, hb1⟩ := HKR.out _ _ _ hr
  simp only [World.size_alloc] at hb1
  have HB1 := Lib.hid hb1
  have HIA := Lib.hid hIA
  have hz1 := hb1.size
  simp only [World.size_alloc] at hz1
  have hbw1 := boxW _ hb1
  clear hr hb1 hIA HKR HK
  by_cases he : err = 0
  · have HSu := Lib.hid (HSu0.out (HOk.out he))
    have HF := Lib.hid (HRy.out he)
    subst he
    clear HRn HRy HOk HSu0
    ((try clear b0 b1 b2 b3 b4); have b0 := box_cell HB1.out 0; have b1 := box_cell HB1.out 1; have b2 := box_cell HB1.out 2; have b3 := box_cell HB1.out 3; have b4 := box_cell HB1.out 4; (try simp at b0 b1 b2 b3 b4))
    go_wp2_with fail
    obtain ⟨xs, hxl, hxr, hx1, hxc⟩ := (HHI.out.keep (keeps_of_below hbw1)).rowOn
    have HXr := Lib.hid hxr
    have HX1 := Lib.hid hx1
    have HXc := Lib.hid (fun W (hW : Below w1.heap.size w1 W) => (show hard.length = 0 ∨ ∃ b off, ah = some ⟨b, off, none⟩ ∧ ∀ j u, xs[j]? = some u → W.cell? ⟨b, off + j, none⟩ = some u from by
      rcases hxc with h | ⟨b, off, h1, h2⟩
      · exact Or.inl h
      · exact Or.inr ⟨b, off, h1, fun j u hu => keeps_of_below hW _ _ (h2 j u hu)⟩))
    have HKb := Lib.hid (fun W (hW : Below w1.heap.size w1 W) => (⟨keeps_of_below hW _ _ b0, keeps_of_below hW _ _ b1, keeps_of_below hW _ _ b2, keeps_of_below hW _ _ b3, keeps_of_below hW _ _ b4⟩ : _ ∧ _ ∧ _ ∧ _ ∧ _))
    clear hxr hx1 hxc
    have HSu := Lib.hid (fun W (hW : Below w1.heap.size w1 W) => (HSu.out W (hbw1.trans (hW.mono hbw1.size))).mono (R' := fun e w' => ∃ z a cap, z = W.heap.size ∧ e = .returned (.slice a sl.length cap) ∧ Hid (ExsOff (fun k => z ≤ k ∧ k < w'.heap.size) w' sl a cap) ∧ Hid (Below W.heap.size W w') ∧ Below w1.heap.size w1 w') (fun e w' ⟨z, a, cap, h1, h2, h3, h4⟩ => ⟨z, a, cap, h1, h2, h3, h4, hW.trans (h4.mono hW.size)⟩))
    go_upto_region 4 with fail
    go_cut [6] from 8 (fun r wx => LRow w1.heap.size wx r (RT 0) ∧ Below w1.heap.size w1 wx)
    case first =>
      go_region_held3 (fun w' => Below w1.heap.size w1 w' ∧ w'.cell? ⟨w.heap.size, 0, none⟩ = some (.slice av vs.length cv) ∧ w'.cell? ⟨w.heap.size, 1, none⟩ = some (.slice ah hard.length ch) ∧ w'.cell? ⟨w.heap.size, 2, none⟩ = some (.slice ao soft.length co) ∧ w'.cell? ⟨w.heap.size, 3, none⟩ = some (.slice ad ds.length cd) ∧ w'.cell? ⟨w.heap.size, 4, none⟩ = some (.slice ag gs.length cg))
        ((refine (fun h => ⟨h, HKb.out _ h⟩) ?_; first | assumption | exact (by repeat (first | assumption | exact Below.refl _ _ | refine Below.drew ?_ | refine below_drewN ?_ _ | refine Below.alloc ?_ (by first | omega | (simp only [World.size_alloc, World.size_setCell, World.size_drew, World.heap_drewN] <;> omega) | (simp <;> omega)) _ | refine Below.setCell ?_ (by first | omega | (simp only [World.size_alloc, World.size_setCell, World.size_drew, World.heap_drewN] <;> omega) | (simp <;> omega)) _))))
        (first
          | (refine step_exs (by rfl) (.tmp 16) (.tmp 18) (by rfl) w1.heap.size _ 0 [] (by rfl) (Loose.lit _ _ _) xs hard.length ah ch hxl HX1.out (HXc.out _ (by first | exact And.left (by assumption) | exact (by repeat (first | assumption | exact Below.refl _ _ | refine Below.drew ?_ | refine below_drewN ?_ _ | refine Below.alloc ?_ (by first | omega | (simp only [World.size_alloc, World.size_setCell, World.size_drew, World.heap_drewN] <;> omega) | (simp <;> omega)) _ | refine Below.setCell ?_ (by first | omega | (simp only [World.size_alloc, World.size_setCell, World.size_drew, World.heap_drewN] <;> omega) | (simp <;> omega)) _)))) (by rfl) (by omega) (by first | omega | (simp only [World.size_alloc, World.size_setCell, World.size_drew, World.heap_drewN] <;> omega) | (simp <;> omega)) ?_; intro v4 w4 hl4 hg4 hat4; have hB4 : Below w1.heap.size w1 w4 := (Below.grown (B := w1.heap.size) (by first | exact And.left (by assumption) | exact (by repeat (first | assumption | exact Below.refl _ _ | refine Below.drew ?_ | refine below_drewN ?_ _ | refine Below.alloc ?_ (by first | omega | (simp only [World.size_alloc, World.size_setCell, World.size_drew, World.heap_drewN] <;> omega) | (simp <;> omega)) _ | refine Below.setCell ?_ (by first | omega | (simp only [World.size_alloc, World.size_setCell, World.size_drew, World.heap_drewN] <;> omega) | (simp <;> omega)) _))) hg4 (by first | omega | (simp only [World.size_alloc, World.size_setCell, World.size_drew, World.heap_drewN] <;> omega) | (simp <;> omega)) (fun q hq => (by simp [Value.ownBlock] at hq; omega))); have hz4 := hg4.size; (try simp only [World.size_alloc, World.size_drew] at hz4); have ho4 : ∀ q, v4.ownBlock = some q → w1.heap.size ≤ q := (fun q hq => (by rcases hat4 q hq with h | h <;> simp only [Value.ownBlock, Option.some.injEq, World.size_alloc, World.size_drew] at h <;> omega)))
          | (refine step_exs (by rfl) (.tmp 19) (.tmp 21) (by rfl) w1.heap.size v4 (0 + hard.length) ([] ++ xs) (by rfl) (by first | exact hl4 | exact hl4.below hb3.out) ys sl.length sa sc hyl (exRow_one (hyr.out w3 (fun _ _ _ h => h))) (by refine hyc.out.imp id (fun ⟨b, off, h1, h2, h3⟩ => ⟨b, off, h1, fun j u hu => ?_⟩); first | exact h3 j u hu | exact agree_grown hg4 (by intro k hk _ h; simp only [Value.ownBlock, Option.some.injEq] at h; have := HZ.out; omega) ⟨b, off + j, none⟩ u h2 (h3 j u hu) | exact agree_grown hg4 (by intro k hk _ h; simp only [Value.ownBlock, Option.some.injEq] at h; have := HZ.out; omega) ⟨b, off + j, none⟩ u h2 (agree_alloc _ _ ⟨b, off + j, none⟩ u h2 (h3 j u hu))) (by rfl) (by omega) (by first | omega | (simp only [World.size_alloc, World.size_setCell, World.size_drew, World.heap_drewN] <;> omega) | (simp <;> omega)) ?_; intro v5 w5 hl5 hg5 hat5; have hB5 : Below w1.heap.size w1 w5 := (Below.grown (B := w1.heap.size) (by first | assumption | exact And.left (by assumption) | exact (by repeat (first | assumption | exact Below.refl _ _ | refine Below.drew ?_ | refine below_drewN ?_ _ | refine Below.alloc ?_ (by first | omega | (simp only [World.size_alloc, World.size_setCell, World.size_drew, World.heap_drewN] <;> omega) | (simp <;> omega)) _ | refine Below.setCell ?_ (by first | omega | (simp only [World.size_alloc, World.size_setCell, World.size_drew, World.heap_drewN] <;> omega) | (simp <;> omega)) _))) hg5 (by first | omega | (simp only [World.size_alloc, World.size_setCell, World.size_drew, World.heap_drewN] <;> omega) | (simp <;> omega)) ho4); have hown5 : ∀ b, v5.ownBlock = some b → ¬ (z ≤ b ∧ b < w3.heap.size) ∧ w1.heap.size ≤ b := (fun b hb => (by rcases hat5 b hb with h | h; (rcases hat4 b h with h4 | h4 <;> simp only [Value.ownBlock, Option.some.injEq, World.size_alloc, World.size_drew] at h4 <;> (have := HZ.out; omega)); ((try simp only [World.size_alloc, World.size_drew] at h); omega))); have hag5 : ExRowOn (fun k => z ≤ k ∧ k < w3.heap.size) w5 sl ys := hyr.out.keep (by first | exact agree_grown hg5 (by intro k hk _ h; rcases hat4 k h with h | h <;> simp only [Value.ownBlock, Option.some.injEq, World.size_alloc, World.size_drew] at h <;> (have := HZ.out; omega)) | exact (agree_grown hg4 (by intro k hk _ h; simp only [Value.ownBlock, Option.some.injEq] at h; have := HZ.out; omega)).trans (agree_grown hg5 (by intro k hk _ h; rcases hat4 k h with h | h <;> simp only [Value.ownBlock, Option.some.injEq, World.size_alloc, World.size_drew] at h <;> (have := HZ.out; omega))) | exact ((agree_alloc _ _).trans (agree_grown hg4 (by intro k hk _ h; simp only [Value.ownBlock, Option.some.injEq] at h; have := HZ.out; omega))).trans (agree_grown hg5 (by intro k hk _ h; rcases hat4 k h with h | h <;> simp only [Value.ownBlock, Option.some.injEq, World.size_alloc, World.size_drew] at h <;> (have := HZ.out; omega)))))
          | (go_at_call 67; (with_reducible refine (HSu.out _ (by first | exact And.left (by assumption) | exact (by repeat (first | assumption | exact Below.refl _ _ | refine Below.drew ?_ | refine below_drewN ?_ _ | refine Below.alloc ?_ (by first | omega | (simp only [World.size_alloc, World.size_setCell, World.size_drew, World.heap_drewN] <;> omega) | (simp <;> omega)) _ | refine Below.setCell ?_ (by first | omega | (simp only [World.size_alloc, World.size_setCell, World.size_drew, World.heap_drewN] <;> omega) | (simp <;> omega)) _)))).mono ?_); rintro e w3 ⟨z, sa, sc, hz, rfl, hso3, hb3, hB3⟩; (try simp only [World.size_alloc, World.size_drew] at hz); have HZ := Lib.hid hz; clear hz; have hz3 := hB3.size; have hz3' := hb3.out.size; (try simp only [World.size_alloc, World.size_drew] at hz3'); obtain ⟨ys, hyl, hyr', _, _, hyc'⟩ := hso3.out; have hyr := Lib.hid hyr'; have hyc := Lib.hid hyc'; clear hyr' hyc'))
      all_goals
        have hrow : LRow w1.heap.size w5 v5 (RT 0) := by
          rw [HR0.out]
          refine ⟨xs ++ ys, ?_, ((HXr.out.keep (agree_below hB5)).mono (fun b hb h9 => by have := (hown5 b h9).2; have hb' : b < w1.heap.size := hb; omega)).append (hag5.mono (fun b hb h9 => (hown5 b h9).1 hb)), fun g hg => (hown5 g hg).2⟩
          have h := hl5
          simp only [Nat.zero_add, List.nil_append] at h
          rw [List.length_append]
          exact h
        go_wp2_with fail
        go_meet
        case rel => exact ⟨hrow, hB5⟩
    case rest =>
      obtain ⟨hrw0, hbc⟩ := hcut
      have HBc := Lib.hid hbc
      have HR0w := Lib.hid hrw0
      clear hrw0 hbc HXr HX1 HXc HSu hxl b0 b1 b2 b3 b4 HKb
      go_wp2_with fail
      go_loopw [6, 7] (fun v i wr => ∃ (k : Nat), i = .int .i64 k ∧ k ≤ LA.length ∧ LRow w1.heap.size wr v (RT k) ∧ Below w1.heap.size w1 wr) (fun _ i _ => LA.length - (intOf i).toNat)
      case atStart => exact ⟨0, rfl, Nat.zero_le _, HR0w.out, HBc.out⟩
      case round =>
        obtain ⟨k, rfl, hk, hrw, hB⟩ := hrel
        have HB := Lib.hid hB
        have hzr := hB.size
        have HBw := Lib.hid (hbw1.trans (hB.mono hbw1.size))
        have HBp := Lib.hid (HB1.out.trans (hB.mono (by omega)))
        obtain ⟨xs, hlo, hro, hgo⟩ := hrw
        have hrl := HRl.out k hk
        obtain ⟨va, vc, rfl⟩ := hlo.slice (by omega)
        have HLo := Lib.hid hlo
        have HRo := Lib.hid hro
        have HGo := Lib.hid hgo
        have hBr := HB.out
        clear hB hlo hro hgo
        by_cases hlt : k < LA.length
        · ((try clear b0 b1 b2 b3 b4); have b0 := box_cell HBp.out 0; have b1 := box_cell HBp.out 1; have b2 := box_cell HBp.out 2; have b3 := box_cell HBp.out 3; have b4 := box_cell HBp.out 4; (try simp at b0 b1 b2 b3 b4))
          obtain ⟨ba, oa, ha⟩ := HIA.out.addr.resolve_left (by omega)
          subst ha
          have c0 := keeps_of_below HB.out _ _ (HIA.out.get rfl hlt)
          have c00 := HIA.out.get rfl hlt
          rw [getD_at hlt] at c0 c00
          have hrg := HRg.out _ (List.getElem_mem hlt)
          have HNx := Lib.hid (HRs.out k hlt)
          have HSx := Lib.hid (fun j (h : j < soft.length) (hn : LA[k]'hlt = (j : Int)) => HSe.out _ j h hn)
          generalize LA[k]'hlt = n at c0 c00 hrg HNx HSx
          obtain ⟨j, rfl⟩ : ∃ j : Nat, n = (j : Int) := ⟨n.toNat, by omega⟩
          have hj : j < soft.length := by omega
          have hj0 : (0 : Int) ≤ (j : Int) := by omega
          have HNx := Lib.hid (HNx.out.trans (by rw [HSx.out j hj rfl]))
          obtain ⟨sb, so, hsb⟩ := HSI.out.addr.resolve_left (by omega)
          subst hsb
          obtain ⟨ea, ec, g0, g1, g2, g3, hX⟩ := HSI.out.get rfl hj
          have kk := keeps_of_below HBw.out
          have d0 := kk _ _ g0
          have d1 := kk _ _ g1
          have d2 := kk _ _ g2
          have d3 := kk _ _ g3
          have HX := Lib.hid hX
          generalize (soft[j]'hj) = e at d0 d1 d2 d3 g0 g1 g2 g3 HX HNx
          have kw := keeps_of_below hbw1
          have HALL := Lib.hid (fun W (hW : Below w1.heap.size w1 W) => (show W.cell? ⟨w.heap.size, 0, none⟩ = some (.slice av vs.length cv) ∧ W.cell? ⟨w.heap.size, 1, none⟩ = some (.slice ah hard.length ch) ∧ W.cell? ⟨w.heap.size, 2, none⟩ = some (.slice (some ⟨sb, so, none⟩) soft.length co) ∧ W.cell? ⟨w.heap.size, 3, none⟩ = some (.slice ad ds.length cd) ∧ W.cell? ⟨w.heap.size, 4, none⟩ = some (.slice ag gs.length cg) ∧ W.cell? ⟨ba, oa + k, none⟩ = some (.int .i64 (j : Int)) ∧ W.cell? ⟨sb, so + j * 4, none⟩ = some (.int .i64 e.op) ∧ W.cell? ⟨sb, so + j * 4 + 1, none⟩ = some (.int .i64 e.n) ∧ W.cell? ⟨sb, so + j * 4 + 2, none⟩ = some (.string e.name) ∧ W.cell? ⟨sb, so + j * 4 + 3, none⟩ = some (.slice ea e.args.length ec) from by
            have hWp := HB1.out.trans (hW.mono hz1)
            have hk1 := keeps_of_below hW
            refine ⟨?_, ?_, ?_, ?_, ?_, hk1 _ _ c00, hk1 _ _ (kw _ _ g0), hk1 _ _ (kw _ _ g1), hk1 _ _ (kw _ _ g2), hk1 _ _ (kw _ _ g3)⟩
            · simpa using box_cell hWp 0
            · simpa using box_cell hWp 1
            · simpa using box_cell hWp 2
            · simpa using box_cell hWp 3
            · simpa using box_cell hWp 4))
          clear g0 g1 g2 g3 hX kk kw c00
          go_wp2_with fail
          go_region_held3 (fun w' => Below w1.heap.size w1 w' ∧ w'.cell? ⟨w.heap.size, 0, none⟩ = some (.slice av vs.length cv) ∧ w'.cell? ⟨w.heap.size, 1, none⟩ = some (.slice ah hard.length ch) ∧ w'.cell? ⟨w.heap.size, 2, none⟩ = some (.slice (some ⟨sb, so, none⟩) soft.length co) ∧ w'.cell? ⟨w.heap.size, 3, none⟩ = some (.slice ad ds.length cd) ∧ w'.cell? ⟨w.heap.size, 4, none⟩ = some (.slice ag gs.length cg) ∧ w'.cell? ⟨ba, oa + k, none⟩ = some (.int .i64 (j : Int)) ∧ w'.cell? ⟨sb, so + j * 4, none⟩ = some (.int .i64 e.op) ∧ w'.cell? ⟨sb, so + j * 4 + 1, none⟩ = some (.int .i64 e.n) ∧ w'.cell? ⟨sb, so + j * 4 + 2, none⟩ = some (.string e.name) ∧ w'.cell? ⟨sb, so + j * 4 + 3, none⟩ = some (.slice ea e.args.length ec))
            ((refine (fun h => ⟨h, HALL.out _ h⟩) ?_; first | assumption | exact (by repeat (first | assumption | exact Below.refl _ _ | refine Below.drew ?_ | refine below_drewN ?_ _ | refine Below.alloc ?_ (by first | omega | (simp only [World.size_alloc, World.size_setCell, World.size_drew, World.heap_drewN] <;> omega) | (simp <;> omega)) _ | refine Below.setCell ?_ (by first | omega | (simp only [World.size_alloc, World.size_setCell, World.size_drew, World.heap_drewN] <;> omega) | (simp <;> omega)) _))))
            (first
              | (refine step_exs (by rfl) (.tmp 29) (.tmp 38) (by rfl) w1.heap.size _ (RT k).length xs (by rfl) (HLo.out.below (by repeat (first | assumption | exact Below.refl _ _ | refine Below.drew ?_ | refine below_drewN ?_ _ | refine Below.alloc ?_ (by first | omega | (simp only [World.size_alloc, World.size_setCell, World.size_drew, World.heap_drewN] <;> omega) | (simp <;> omega)) _ | refine Below.setCell ?_ (by first | omega | (simp only [World.size_alloc, World.size_setCell, World.size_drew, World.heap_drewN] <;> omega) | (simp <;> omega)) _))) [.int .i64 e.op, .int .i64 e.n, .string e.name, .slice ea e.args.length ec] 1 _ 1 rfl (by simp [Value.oneCell']) (Or.inr ⟨_, 0, rfl, cells_of_block (by first | exact heap_alloc_new' _ _ | exact heap_alloc_drew _ _)⟩) (by rfl) (by omega) (by first | omega | (simp only [World.size_alloc, World.size_setCell, World.size_drew, World.heap_drewN] <;> omega) | (simp <;> omega)) ?_; intro v5 w5 hl5 hg5 hat5; have hB5 : Below w1.heap.size w1 w5 := (Below.grown (B := w1.heap.size) (by first | exact And.left (by assumption) | exact (by repeat (first | assumption | exact Below.refl _ _ | refine Below.drew ?_ | refine below_drewN ?_ _ | refine Below.alloc ?_ (by first | omega | (simp only [World.size_alloc, World.size_setCell, World.size_drew, World.heap_drewN] <;> omega) | (simp <;> omega)) _ | refine Below.setCell ?_ (by first | omega | (simp only [World.size_alloc, World.size_setCell, World.size_drew, World.heap_drewN] <;> omega) | (simp <;> omega)) _))) hg5 (by first | omega | (simp only [World.size_alloc, World.size_setCell, World.size_drew, World.heap_drewN] <;> omega) | (simp <;> omega)) HGo.out)))
          have hown5 : ∀ b, v5.ownBlock = some b → (Value.slice va (RT k).length vc).ownBlock = some b ∨ wr.heap.size < b := fun b hb => by
            rcases hat5 b hb with h | h
            · exact Or.inl h
            · right
              have h1 := h.1
              simp only [World.size_drew, World.size_alloc] at h1
              omega
          have hrow : LRow w1.heap.size w5 v5 (RT k ++ [e]) := by
            refine ⟨xs ++ [.int .i64 e.op, .int .i64 e.n, .string e.name, .slice ea e.args.length ec], by rw [List.length_append]; exact hl5, ?_, fun g hg => ?_⟩
            · have he1 : ExRowOn (fun b => (Value.slice va (RT k).length vc).ownBlock ≠ some b) wr [e] [.int .i64 e.op, .int .i64 e.n, .string e.name, .slice ea e.args.length ec] := ExOn.row (fun w' hw' => HX.out.keep (fun p v h => hw' p v (fun h9 => by
                have h8 := HGo.out _ h9
                have h7 := World.block_lt_of_cell? _ _ h
                have := hbw1.size
                omega) (keeps_of_below HBw.out _ _ h)))
              refine (((HRo.out.append he1).narrow (S' := fun b => (Value.slice va (RT k).length vc).ownBlock ≠ some b ∧ b < wr.heap.size) (fun b h1 h2 => ⟨h1, h2⟩)).keep ((agree_below (w' := (wr.alloc (.cells #[.int .i64 e.op, .int .i64 e.n, .string e.name, .slice ea e.args.length ec] 57)).drew) (by repeat (first | assumption | exact Below.refl _ _ | refine Below.drew ?_ | refine below_drewN ?_ _ | refine Below.alloc ?_ (by first | omega | (simp only [World.size_alloc, World.size_setCell, World.size_drew, World.heap_drewN] <;> omega) | (simp <;> omega)) _ | refine Below.setCell ?_ (by first | omega | (simp only [World.size_alloc, World.size_setCell, World.size_drew, World.heap_drewN] <;> omega) | (simp <;> omega)) _))).trans (agree_grown hg5 (fun b hb _ h => hb.1 h)))).mono (fun b hb h9 => ?_)
              rcases hown5 b h9 with h | h
              · exact hb.1 h
              · have := hb.2; omega
            · rcases hown5 g hg with h | h
              · exact HGo.out g h
              · omega
          rw [← HNx.out] at hrow
          go_wp2_with fail
          go_roundw
          case rel => exact ⟨k + 1, by go_num, by omega, hrow, hB5⟩
          case measure => (simp [intOf]; try omega)
        · obtain rfl : k = LA.length := by omega
          obtain ⟨fa, fc, hfv, hfI⟩ := HLo.out.ins rfl (HRo.out wr (fun _ _ _ h => h)) (by omega)
          injection hfv with e1 _ e3
          subst e1 e3
          have HFn := Lib.hid (HF.out wr _ _ hfI HBw.out)
          clear hfI
          go_wp2_with fail
          (try rw [Exit.noGoto_ret])
          go_ret2
          exact HFn.out
  · have HF := Lib.hid (HRn.out he w1 hbw1)
    have hne : (err != (0 : Int)) = true := by simpa using he
    clear he HRn HRy HSu0
    go_wp2_with fail
    (try rw [Exit.noGoto_ret])
    go_ret2
    exact HF.out
end Go.Proofs.YtgdphjgedhadoaaGreatDoor

/- ref22: Same, of equal lists. -/
namespace Go.Proofs.YtgdphjgedhadoaaGreatDoor
open Go.RowKit
attribute [local go_sem ↓] Go.wp_at_zero Go.wp_at_succ

set_option maxRecDepth 100000 in
set_option maxHeartbeats 8000000 in
theorem r22Same_any (l : List Ex) (aa : Option Addr) (ca : Nat) (ab : Option Addr) (cb : Nat) (w : World) (hA : ExsIn w l aa ca) (hB : ExsIn w l ab cb) :
    Calls Tryz.prog 39 #[.slice aa l.length ca, .slice ab l.length cb] w fun e w' => e = .returned (.bool true) ∧ Below w.heap.size w w' := by
  have HA := Lib.hid hA
  have HB := Lib.hid hB
  have HAA := Lib.hid hA.addr
  have HAB := Lib.hid hB.addr
  have hll := hA.2.1
  have hd : ((l.length : Int) != (l.length : Int)) = false := by simp
  clear hA hB
  go_enter Tryz.func39, Tryz.ntmps39
  go_wp2_with fail
  go_loopw [5] (fun i wr => ∃ k : Nat, i = .int .i64 k ∧ k ≤ l.length ∧ Below w.heap.size w wr) (fun i _ => l.length - (intOf i).toNat)
  case atStart => exact ⟨0, rfl, Nat.zero_le _, Below.refl _ _⟩
  case round =>
    obtain ⟨k, rfl, hk, hW⟩ := hrel
    have HW := Lib.hid hW
    have hzr := hW.size
    clear hW
    by_cases hlt : k < l.length
    · obtain ⟨ba, oa, ha⟩ := HAA.out.resolve_left (by omega)
      obtain ⟨bb, ob, hb⟩ := HAB.out.resolve_left (by omega)
      subst ha
      subst hb
      obtain ⟨a1, k1, g0, g1, g2, g3, hP⟩ := HA.out.get rfl hlt
      obtain ⟨a2, k2, q0, q1, q2, q3, hQ⟩ := HB.out.get rfl hlt
      have kk := keeps_of_below HW.out
      have c0 : ∀ g : Grow wr.heap.size wr, g.w'.cell? _ = _ := Grow.old (kk _ _ g0) (Nat.le_refl _)
      have c1 : ∀ g : Grow wr.heap.size wr, g.w'.cell? _ = _ := Grow.old (kk _ _ g1) (Nat.le_refl _)
      have c2 : ∀ g : Grow wr.heap.size wr, g.w'.cell? _ = _ := Grow.old (kk _ _ g2) (Nat.le_refl _)
      have c3 : ∀ g : Grow wr.heap.size wr, g.w'.cell? _ = _ := Grow.old (kk _ _ g3) (Nat.le_refl _)
      have d0 : ∀ g : Grow wr.heap.size wr, g.w'.cell? _ = _ := Grow.old (kk _ _ q0) (Nat.le_refl _)
      have d1 : ∀ g : Grow wr.heap.size wr, g.w'.cell? _ = _ := Grow.old (kk _ _ q1) (Nat.le_refl _)
      have d2 : ∀ g : Grow wr.heap.size wr, g.w'.cell? _ = _ := Grow.old (kk _ _ q2) (Nat.le_refl _)
      have d3 : ∀ g : Grow wr.heap.size wr, g.w'.cell? _ = _ := Grow.old (kk _ _ q3) (Nat.le_refl _)
      have HC := Lib.hid (fun W (hW : Below wr.heap.size wr W) => (r08Same_any (l[k]'hlt) (l[k]'hlt) a1 k1 a2 k2 W ((hP.keep kk).keep (keeps_of_below hW)) ((hQ.keep kk).keep (keeps_of_below hW))).mono fun e w' h => (⟨h.1, hW.trans (h.2.mono hW.size)⟩ : _ ∧ Below wr.heap.size wr w'))
      simp only [exVal, pB_true] at HC
      generalize l[k]'hlt = u at c0 c1 c2 c3 d0 d1 d2 d3 HC
      clear g0 g1 g2 g3 q0 q1 q2 q3 kk hP hQ
      go_wp2_with fail
      (refine wp_region_grow (B := wr.heap.size) (w0 := wr) (by kernel_rfl) (by kernel_rfl) (by repeat (first | assumption | exact Below.refl _ _ | refine Below.drew ?_ | refine below_drewN ?_ _ | refine Below.alloc ?_ (by first | omega | (simp only [World.size_alloc, World.size_setCell, World.size_drew, World.heap_drewN] <;> omega) | (simp <;> omega)) _ | refine Below.setCell ?_ (by first | omega | (simp only [World.size_alloc, World.size_setCell, World.size_drew, World.heap_drewN] <;> omega) | (simp <;> omega)) _)) ?_; (repeat (go_big_quiet_step ((go_at_call 36; with_reducible exact grow_call (HC.out _ (Grow.h _)))))); refine wpQuiet_nil ?_; intro wg hCg; have hbg := grow_out hCg; clear hCg)
      go_wp2_with fail
      go_roundw
      case rel => exact ⟨k + 1, by go_num, by omega, HW.out.trans ((by assumption : Below wr.heap.size wr _).mono hzr)⟩
      case measure => simp [intOf]; omega
    · obtain rfl : k = l.length := by omega
      go_wp2_with fail
      go_ret
      exact ⟨rfl, HW.out⟩
end Go.Proofs.YtgdphjgedhadoaaGreatDoor
