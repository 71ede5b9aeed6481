/- ref41: Step. -/
import Derived.Test.YthojpomoflhbcaaGreatDoorM38
import Derived.Test.YthojpomoflhbcaaGreatDoorM39
import Derived.Test.YthojpomoflhbcaaGreatDoorM40
import Derived.Test.YthojpomoflhbcaaGreatDoorM35
import Derived.Test.YthojpomoflhbcaaGreatDoorM36
import Derived.Test.YthojpomoflhbcaaGreatDoorM24
set_option linter.unusedSimpArgs false
set_option linter.unusedVariables false
set_option linter.unnecessarySimpa false
namespace Go.Proofs.YthojpomoflhbcaaGreatDoor
open Go.RowKit
attribute [local go_sem ↓] Go.wp_at_zero Go.wp_at_succ
def RStRet (r:List ThrD × Int) (w:World) (e:Ending) (w':World):Prop:=(∃ a c,e=.returned (.tuple #[.slice a r.1.length c,.int .i64 r.2])∧thE.In w' r.1 a c)∧Below w.heap.size w w'
set_option maxHeartbeats 16000000 in
set_option maxRecDepth 100000 in
theorem rstep_any (n:NfaD) (x:NfaA) (l:List ThrD) (al:Option Addr) (cl:Nat) (env:List Sg) (ae:Option Addr) (ce:Nat) (w:World) (hN:NfaIn w n x) (hs:SmallN n) (hse:∀ e∈n.edges,StepEd e)
    (hL:thE.In w l al cl) (hll:l.length≤1000) (hlt:∀ t∈l,t.env.length≤50000) (hE:sgE.In w env ae ce) (he:env.length≤50000) :
    Calls Tryz.prog 20 #[nfaVal n x,.slice al l.length cl,.slice ae env.length ce] w (RStRet (nstepS n l env) w):=by
  have HV:=Lib.hid fun W (hW:Below w.heap.size w W)=>rnvalid_any n x W (hN.keep (keeps_of_below hW)) hs
  have HSo:Hid (∀ (k:Nat) (hk:k < l.length) (W:World) (at_:Option Addr) (ct:Nat),SigsIn W (l[k]'hk).env at_ ct→Calls Tryz.prog 24 #[.slice at_ (l[k]'hk).env.length ct] W fun e w'=>e=.returned (.bool (localsB (l[k]'hk).env))∧Below W.heap.size W w'):=fun k hk W a c h=>rlocals_any _ a c W h
  have HTk:Hid (∀ (k:Nat) (hk:k < l.length) (m:Nat) (hm:m < n.edges.length) (W:World) (at_:Option Addr) (ct:Nat) (ag:Option Addr) (cg:Nat) (aS:Option Addr) (cs:Nat),Below w.heap.size w W→localsB (l[k]'hk).env=true→SigsIn W (l[k]'hk).env at_ ct→exE.In W (n.edges[m]'hm).guards ag cg→bdE.In W (n.edges[m]'hm).sets aS cs →
      Calls Tryz.prog 53 #[.agg #[.int .i64 (n.edges[m]'hm).fr,.int .i64 (n.edges[m]'hm).to,.slice ag (n.edges[m]'hm).guards.length cg,.slice aS (n.edges[m]'hm).sets.length cs],.slice at_ (l[k]'hk).env.length ct,.slice ae env.length ce] W (RTkRet (takeS (n.edges[m]'hm) (l[k]'hk).env env) W)) :=
    fun k hk m hm W at_ ct ag cg aS cs hW hlo h1 h2 h3=>rtake_any (l[k]'hk).env at_ ct (n.edges[m]'hm) ag cg aS cs env ae ce W (sgE_in.2 h1) h2 h3 (hE.keep (keeps_of_below hW)) (locals_asc hlo) (hlt _ (List.getElem_mem hk)) he (hse _ (List.getElem_mem hm))
  have HNo:Hid (nfaOk n=false∨l.all (thrOk n)=false→∀ W,Below w.heap.size w W→RStRet (nstepS n l env) w (.returned (.tuple #[.slice none 0 0,.int .i64 1])) W):=fun h W hW=>by
    have:nstepS n l env=([],1):=by
      unfold nstepS
      rcases h with h | h
      · rw[if_pos h]
      · by_cases h2:nfaOk n=false
        · rw[if_pos h2]
        · rw[if_neg h2,if_pos h]
    rw[this]
    exact⟨⟨none,0,rfl,Enc.In.nil _⟩,hW⟩
  have HBig:Hid (nfaOk n=true→l.all (thrOk n)=true→256 < (stepTo n env l l.length).length→∀ W,Below w.heap.size w W→RStRet (nstepS n l env) w (.returned (.tuple #[.slice none 0 0,.int .i64 2])) W):=fun h1 h2 h3 W hW=>by
    have:nstepS n l env=([],2):=by
      unfold nstepS
      rw[if_neg (by simp[h1]),if_neg (by simp[h2]),if_pos h3]
    rw[this]
    exact⟨⟨none,0,rfl,Enc.In.nil _⟩,hW⟩
  have HYes:Hid (nfaOk n=true→l.all (thrOk n)=true→¬ 256 < (stepTo n env l l.length).length→∀ W a c,Below w.heap.size w W→thE.In W (stepTo n env l l.length) a c→RStRet (nstepS n l env) w (.returned (.tuple #[.slice a (stepTo n env l l.length).length c,.int .i64 0])) W):=fun h1 h2 h3 W a c hW hin=>by
    have:nstepS n l env=(stepTo n env l l.length,0):=by
      unfold nstepS
      rw[if_neg (by simp[h1]),if_neg (by simp[h2]),if_neg h3]
    rw[this]
    exact⟨⟨a,c,rfl,hin⟩,hW⟩
  have HNs:=Lib.hid hN.es
  have HLs:=Lib.hid hL
  have HNa:Hid (n.edges.length=0∨∃ b off,x.ae=some ⟨b,off,none⟩):=hN.es.addr
  have HLa:Hid (l.length=0∨∃ b off,al=some ⟨b,off,none⟩):=hL.addr
  have hel:=hN.es.len
  unfold BoolRet at HV
  rw[nfaVal_eq] at HV⊢
  generalize hPo:RStRet (nstepS n l env) w=Po at HNo HBig HYes⊢
  clear hPo hN hs hse hL hlt hE he
  obtain⟨xae,xce,xaa,xca⟩:=x
  simp only at HV HNs HNa⊢
  go_enter Tryz.func20, Tryz.ntmps20
  go_upto_region 1 with fail
  generalize hW2:World.alloc w _=W2
  have HB2:Hid (Below w.heap.size w W2):=by show Below _ _ _;rw[← hW2];exact(Below.refl _ _).alloc (Nat.le_refl _) _
  have HX2:Hid (W2.heap[w.heap.size]? = some (.cells #[.int .i64 n.states,.slice xae n.edges.length xce,.slice xaa n.accept.length xca] 33 (0,0))):=by show _=_;rw[← hW2];exact hx_newT rfl
  have hz2:w.heap.size+1≤W2.heap.size:=by rw[← hW2];simp
  clear hW2
  obtain⟨b0,b1,b2⟩:=cell3T HX2.out
  go_wp2_with fail
  refine(HV.out _ HB2.out).mono ?_
  rintro e w3 ⟨rfl,hb3⟩
  have HB3:Hid (Below w.heap.size w w3):=HB2.out.trans (hb3.mono HB2.out.size)
  have HX3:Hid (w3.heap[w.heap.size]? = some (.cells #[.int .i64 n.states,.slice xae n.edges.length xce,.slice xaa n.accept.length xca] 33 (0,0))):=(hb3.block _ (by omega)).trans HX2.out
  have hz3:w.heap.size+1≤w3.heap.size:=by have:=hb3.size;omega
  clear hb3 HX2 HB2 HV b0 b1 b2 hz2
  cases hok:nfaOk n with
  | false =>
    have HN:=Lib.hid (HNo.out (Or.inl hok))
    clear hok HNo HYes HBig
    go_wp2_with fail
    have HN2:=Lib.hid (HN.out w3 HB3.out)
    first | exact HN2.out | (go_ret2;exact HN2.out)
  | true =>
    have HOk:=Lib.hid hok
    have hne:n.edges.length≤4096:=(nfaOk_iff.1 hok).1.2.2
    clear hok
    go_wp2_with fail
    go_loopw [8] (fun i wr=>∃ k:Nat,i=.int .i64 k∧k≤l.length∧Hid (∀ j (hj:j < l.length),j < k→thrOk n (l[j]'hj)=true)∧Hid (Below w3.heap.size w3 wr)) (fun i _=>l.length - (intOf i).toNat)
    case atStart=>exact⟨0,rfl,Nat.zero_le _,fun j _ h=>absurd h (Nat.not_lt_zero _),Below.refl _ _⟩
    case round =>
      (try rename World=>wr)
      obtain⟨k,rfl,hk,HN,HBr⟩:=hrel
      have hzr:=HBr.out.size
      have HBw:Hid (Below w.heap.size w wr):=HB3.out.trans (HBr.out.mono HB3.out.size)
      have HXr:Hid (wr.heap[w.heap.size]? = some (.cells #[.int .i64 n.states,.slice xae n.edges.length xce,.slice xaa n.accept.length xca] 33 (0,0))):=(HBr.out.block _ (by omega)).trans HX3.out
      by_cases hltk:k < l.length
      · have hkl:(k:Int) < l.length:=by omega
        obtain⟨bl,ol,hla⟩:=HLa.out.resolve_left (by omega)
        subst hla
        obtain⟨ta,tc,g0,g1,ht⟩:=thE_get (HLs.out.keep (keeps_of_below HBw.out)) rfl hltk
        have HS1:=fun W h=>HSo.out k hltk W ta tc h
        have HBad:Hid (thrOk n (l[k]'hltk)=false→l.all (thrOk n)=false):=fun h=>by
          rw[← Bool.not_eq_true,List.all_eq_true]
          intro h2
          rw[h2 _ (List.getElem_mem hltk)] at h;cases h
        have HGo:Hid (thrOk n (l[k]'hltk)=true→∀ j (hj:j < l.length),j < k+1→thrOk n (l[j]'hj)=true):=fun h j hj hjk=>by
          by_cases e:j=k
          · subst e;exact h
          · exact HN.out j hj (by omega)
        generalize (l[k]'hltk)=t at HS1 HBad HGo g0 g1 ht
        have HOk1:Hid (thrOk n t=(decide (0≤t.state∧t.state < n.states) && localsB t.env)):=rfl
        have HS2:Hid (∀ W,Below wr.heap.size wr W→Calls Tryz.prog 24 #[.slice ta t.env.length tc] W fun e w'=>e=.returned (.bool (localsB t.env))∧Below wr.heap.size wr w'):=fun W hW=>(HS1 W (SigsIn.keep (keeps_of_below hW) ht)).mono fun e w' h=>⟨h.1,hW.trans (h.2.mono hW.size)⟩
        obtain⟨x0,x1,x2⟩:=cell3T HXr.out
        have HC:Hid (∀ W,Below wr.heap.size wr W→W.cell? ⟨w.heap.size,0,none⟩=some (.int .i64 n.states)∧W.cell? ⟨bl,ol+k * 2,none⟩=some (.int .i64 t.state)∧W.cell? ⟨bl,ol+k * 2+1,none⟩=some (.slice ta t.env.length tc)):=fun W hW=>⟨keeps_of_below hW _ _ x0,keeps_of_below hW _ _ g0,keeps_of_below hW _ _ g1⟩
        generalize thrOk n t=okt at HOk1 HBad HGo
        generalize localsB t.env=lo at HS2 HOk1
        clear ht HS1
        by_cases hr1:t.state < 0
        · have HE1:=Lib.hid (HNo.out (Or.inr (HBad.out (by rw[HOk1.out,decide_eq_false (by omega)];rfl))))
          have hd1:decide (t.state < 0)=true:=decide_eq_true hr1
          go_wp2_with fail
          go_quiet (fail)
          go_wp2_with fail
          first | exact HE1.out _ (below_drewN HBw.out _) | (go_ret2;exact HE1.out _ (below_drewN HBw.out _))
        · have hd1:decide (t.state < 0)=false:=decide_eq_false hr1
          by_cases hr2:n.states≤t.state
          · have HE1:=Lib.hid (HNo.out (Or.inr (HBad.out (by rw[HOk1.out,decide_eq_false (by omega)];rfl))))
            have hd2:decide (n.states≤t.state)=true:=decide_eq_true hr2
            go_wp2_with fail
            go_quiet (fail)
            go_wp2_with fail
            first | exact HE1.out _ (below_drewN HBw.out _) | (go_ret2;exact HE1.out _ (below_drewN HBw.out _))
          · have hd2:decide (n.states≤t.state)=false:=decide_eq_false hr2
            cases lo with
            | true =>
              have HN2:=Lib.hid (HGo.out (by rw[HOk1.out,decide_eq_true (by omega)];rfl))
              go_wp2_with fail
              go_region_held3 (fun W=>Below wr.heap.size wr W∧(W.cell? ⟨w.heap.size,0,none⟩=some (.int .i64 n.states)∧W.cell? ⟨bl,ol+k * 2,none⟩=some (.int .i64 t.state)∧W.cell? ⟨bl,ol+k * 2+1,none⟩=some (.slice ta t.env.length tc)))
                ((refine(fun h=>⟨h,HC.out _ h⟩) ?_;first | with_reducible assumption | exact belR))
                (first | (go_at_call 24;(with_reducible refine(HS2.out _ (by first | with_reducible assumption | exact belR)).mono ?_);rintro e w6 ⟨rfl,hb6⟩))
              all_goals
                have HB6:Hid (Below w3.heap.size w3 w6):=HBr.out.trans (Below.mono hb6 hzr)
                clear hb6
                go_wp2_with fail
                go_roundw
                case rel=>exact⟨k+1,by go_num,by omega,HN2.out,HB6.out⟩
                case measure=>(simp[intOf];try omega)
            | false =>
              have HE1:=Lib.hid (HNo.out (Or.inr (HBad.out (by rw[HOk1.out];simp))))
              go_wp2_with fail
              go_region_held3 (fun W=>Below wr.heap.size wr W∧(W.cell? ⟨w.heap.size,0,none⟩=some (.int .i64 n.states)∧W.cell? ⟨bl,ol+k * 2,none⟩=some (.int .i64 t.state)∧W.cell? ⟨bl,ol+k * 2+1,none⟩=some (.slice ta t.env.length tc)))
                ((refine(fun h=>⟨h,HC.out _ h⟩) ?_;first | with_reducible assumption | exact belR))
                (first | (go_at_call 24;(with_reducible refine(HS2.out _ (by first | with_reducible assumption | exact belR)).mono ?_);rintro e w6 ⟨rfl,hb6⟩))
              all_goals
                have HE2:=Lib.hid (HE1.out w6 (HBw.out.trans (Below.mono hb6 HBw.out.size)))
                clear hb6
                go_wp2_with fail
                first | exact HE2.out | (go_ret2;exact HE2.out)
      · obtain rfl:k=l.length:=by omega
        have HAll:Hid (l.all (thrOk n)=true):=by
          show _=_
          rw[List.all_eq_true]
          intro t ht
          obtain⟨j,hj,rfl⟩:=List.getElem_of_mem ht
          exact HN.out j hj hj
        have HThr:Hid (∀ j (hj:j < l.length),localsB (l[j]'hj).env=true):=fun j hj=>by
          have:=HN.out j hj hj
          unfold thrOk at this
          exact(Bool.and_eq_true_iff.1 this).2
        have HBg:=Lib.hid (HBig.out HOk.out HAll.out)
        have HYs:=Lib.hid (HYes.out HOk.out HAll.out)
        clear HNo HBig HYes HN HOk HAll HSo
        have H0:=stepTo_zero n env l
        have HFt:Hid (∀ k,k≤l.length→Asc cmpThr (stepTo n env l k)∧(stepTo n env l k).length≤4096000):=fun k hk=>by
          obtain⟨h1,h2⟩:=stepTo_facts2 n env l k hk
          exact⟨h1,by calc _≤k * n.edges.length:=h2
                        _≤1000 * 4096:=Nat.mul_le_mul (by omega) hne⟩
        have HTs:Hid (∀ k (hk:k < l.length),stepTo n env l (k+1)=stepT n env (stepTo n env l k) (l[k]'hk) n.edges.length):=fun k hk=>stepTo_at n env l hk
        generalize stepTo n env l=OT at HBg HYs H0 HFt HTs
        have HI0:Hid (thE.In wr (OT 0) none 0):=by show thE.In _ _ _ _;rw[H0];exact Enc.In.nil _
        have HL0:Hid ((OT 0).length=0):=by show _=_;rw[H0];rfl
        clear H0
        go_wp2_with fail
        go_loopw [10,9,11,12,13] (fun i o _ _ _ wd=>∃ (m:Nat) (a:Option Addr) (c:Nat),i=.int .i64 m∧o=.slice a (OT m).length c∧m≤l.length∧Hid (thE.In wd (OT m) a c)∧Hid (wd.heap[w.heap.size]? = some (.cells #[.int .i64 n.states,.slice xae n.edges.length xce,.slice xaa n.accept.length xca] 33 (0,0)))∧Hid (Below w.heap.size w wd)) (fun i _ _ _ _ _=>l.length - (intOf i).toNat)
        case atStart=>exact⟨0,none,0,rfl,by rw[HL0.out],Nat.zero_le _,HI0.out,HXr.out,HBw.out⟩
        case round =>
          (try rename World=>wd)
          obtain⟨m,ao,co,rfl,hov,hm,HI,HXd,HBd⟩:=hrel
          subst hov
          have hzd:=lt_of_block HXd.out
          have hfm:=HFt.out m hm
          obtain⟨ha,hlen⟩:=hfm
          by_cases hltm:m < l.length
          · have hml:(m:Int) < l.length:=by omega
            obtain⟨bl,ol,hla⟩:=HLa.out.resolve_left (by omega)
            subst hla
            obtain⟨ta,tc,g0w,g1w,ht⟩:=thE_get HLs.out rfl hltm
            have HTk1:=fun m2 hm2 W ag cg aS cs h1 h2=>HTk.out m hltm m2 hm2 W ta tc ag cg aS cs h1 (HThr.out m hltm) h2
            have HT1:=HTs.out m hltm
            generalize (l[m]'hltm)=t at HTk1 HT1 g0w g1w ht
            have HTk2:=Lib.hid HTk1
            have HT:=Lib.hid ht
            have HG:Hid (∀ W,Below w.heap.size w W→W.cell? ⟨bl,ol+m * 2,none⟩=some (.int .i64 t.state)∧W.cell? ⟨bl,ol+m * 2+1,none⟩=some (.slice ta t.env.length tc)):=fun W hW=>⟨keeps_of_below hW _ _ g0w,keeps_of_below hW _ _ g1w⟩
            have HF2:Hid (∀ k,k≤n.edges.length→Asc cmpThr (stepT n env (OT m) t k)∧(stepT n env (OT m) t k).length≤5000000):=fun k hk=>by
              obtain⟨h1,h2⟩:=stepT_facts n env (OT m) t ha k hk
              exact⟨h1,by omega⟩
            have HDs:Hid (∀ k (hk:k < n.edges.length),stepT n env (OT m) t (k+1)=stepE env t (stepT n env (OT m) t k) (n.edges[k]'hk)):=fun k hk=>stepT_at n env (OT m) t hk
            have HD0:=stepT_zero n env (OT m) t
            generalize stepT n env (OT m) t=D at HT1 HF2 HDs HD0
            have HT2:=Lib.hid HT1
            have HID:Hid (thE.In wd (D 0) ao co):=by show thE.In _ _ _ _;rw[HD0];exact HI.out
            have HDl:Hid ((OT m).length=(D 0).length):=by show _=_;rw[HD0]
            clear HTk1 ht HT1 g0w g1w HD0 HI
            rw[HDl.out]
            go_wp2_with fail
            go_loopw [11,9,12,13] (fun i o _ _ we=>∃ (k:Nat) (a:Option Addr) (c:Nat),i=.int .i64 k∧o=.slice a (D k).length c∧k≤n.edges.length∧Hid (thE.In we (D k) a c)∧Hid (we.heap[w.heap.size]? = some (.cells #[.int .i64 n.states,.slice xae n.edges.length xce,.slice xaa n.accept.length xca] 33 (0,0)))∧Hid (Below w.heap.size w we)) (fun i _ _ _ _=>n.edges.length - (intOf i).toNat)
            case atStart=>exact⟨0,ao,co,rfl,rfl,Nat.zero_le _,HID.out,HXd.out,HBd.out⟩
            case round =>
              (try rename World=>we)
              obtain⟨k,ae2,ce2,rfl,hov,hk,HIe,HXe,HBe⟩:=hrel
              subst hov
              have hze:=lt_of_block HXe.out
              obtain⟨x0,x1,x2⟩:=cell3T HXe.out
              by_cases hltk:k < n.edges.length
              · have hke:(k:Int) < n.edges.length:=by omega
                obtain⟨bE,oE,hEa⟩:=HNa.out.resolve_left (by omega)
                subst hEa
                obtain⟨ag,cg,aS,cs,f0,f1,f2,f3,hg,hs⟩:=edE_get (HNs.out.keep (keeps_of_below HBe.out)) rfl hltk
                have HTk3:=fun W (hW:Below we.heap.size we W)=>HTk2.out k hltk W ag cg aS cs (HBe.out.trans (hW.mono HBe.out.size)) (SigsIn.keep (keeps_of_below (HBe.out.trans (hW.mono HBe.out.size))) HT.out) (hg.keep (keeps_of_below hW)) (hs.keep (keeps_of_below hW))
                obtain⟨hak,hlk⟩:=HF2.out k hk
                have HD1:=HDs.out k hltk
                obtain⟨g0,g1⟩:=HG.out we HBe.out
                generalize (n.edges[k]'hltk)=e at HTk3 HD1 f0 f1 f2 f3 hg hs
                have HTk4:=Lib.hid HTk3
                have HD2:=Lib.hid HD1
                clear HTk3 HD1 hg hs
                by_cases hfr:e.fr=t.state
                · have HD3:Hid (D (k+1)=match takeS e t.env env with | some loc=>insL cmpThr (D k) ⟨e.to,loc⟩ | none=>D k):=by show _=_;rw[HD2.out];unfold stepE;rw[if_pos hfr];cases takeS e t.env env<;>rfl
                  generalize takeS e t.env env=tk at HTk4 HD3
                  have hfb:(e.fr != t.state)=false:=by simp[hfr]
                  clear HD2 hfr
                  have HC:Hid (∀ W,Below we.heap.size we W→W.cell? ⟨w.heap.size,1,none⟩=some (.slice (some ⟨bE,oE,none⟩) n.edges.length xce)∧W.cell? ⟨bE,oE+k * 4,none⟩=some (.int .i64 e.fr)∧W.cell? ⟨bE,oE+k * 4+1,none⟩=some (.int .i64 e.to)∧W.cell? ⟨bE,oE+k * 4+2,none⟩=some (.slice ag e.guards.length cg)∧W.cell? ⟨bE,oE+k * 4+3,none⟩=some (.slice aS e.sets.length cs)∧W.cell? ⟨bl,ol+m * 2,none⟩=some (.int .i64 t.state)∧W.cell? ⟨bl,ol+m * 2+1,none⟩=some (.slice ta t.env.length tc)):=fun W hW=>⟨keeps_of_below hW _ _ x1,keeps_of_below hW _ _ f0,keeps_of_below hW _ _ f1,keeps_of_below hW _ _ f2,keeps_of_below hW _ _ f3,keeps_of_below hW _ _ g0,keeps_of_below hW _ _ g1⟩
                  go_wp2_with fail
                  go_quiet (fail)
                  go_wp2_with fail
                  generalize hWq:World.drewN we _=Wq
                  have hbq:Below we.heap.size we Wq:=by rw[← hWq];exact below_drewN (Below.refl _ _) _
                  have HBq:=Lib.hid hbq
                  have hzq:=hbq.size
                  clear hWq hbq
                  have HTk5:Hid (∀ W,Below Wq.heap.size Wq W→Calls Tryz.prog 53 #[.agg #[.int .i64 e.fr,.int .i64 e.to,.slice ag e.guards.length cg,.slice aS e.sets.length cs],.slice ta t.env.length tc,.slice ae env.length ce] W fun e w'=>TkM tk w' e∧Below Wq.heap.size Wq w'):=fun W hW=>(HTk4.out W (HBq.out.trans (hW.mono hzq))).mono fun e w' h=>⟨h.1,hW.trans (h.2.mono hW.size)⟩
                  have HCq:Hid (∀ W,Below Wq.heap.size Wq W→W.cell? ⟨w.heap.size,1,none⟩=some (.slice (some ⟨bE,oE,none⟩) n.edges.length xce)∧W.cell? ⟨bE,oE+k * 4,none⟩=some (.int .i64 e.fr)∧W.cell? ⟨bE,oE+k * 4+1,none⟩=some (.int .i64 e.to)∧W.cell? ⟨bE,oE+k * 4+2,none⟩=some (.slice ag e.guards.length cg)∧W.cell? ⟨bE,oE+k * 4+3,none⟩=some (.slice aS e.sets.length cs)∧W.cell? ⟨bl,ol+m * 2,none⟩=some (.int .i64 t.state)∧W.cell? ⟨bl,ol+m * 2+1,none⟩=some (.slice ta t.env.length tc)):=fun W hW=>HC.out W (HBq.out.trans (hW.mono hzq))
                  clear x0 x1 x2 f0 f1 f2 f3 g0 g1 HTk4 HC
                  obtain⟨p0,p1,p2,p3,p4,p5,p6⟩:=HCq.out Wq (Below.refl _ _)
                  cases tk with
                  | none =>
                    have HD4:Hid (D (k+1)=D k):=HD3.out
                    have HTk6:Hid (∀ W,Below Wq.heap.size Wq W→Calls Tryz.prog 53 #[.agg #[.int .i64 e.fr,.int .i64 e.to,.slice ag e.guards.length cg,.slice aS e.sets.length cs],.slice ta t.env.length tc,.slice ae env.length ce] W fun e w'=>e=.returned (.tuple #[.slice none 0 0,.bool false])∧Below Wq.heap.size Wq w'):=HTk5.out
                    clear HTk5
                    go_region_held3 (fun W=>Below Wq.heap.size Wq W∧(W.cell? ⟨w.heap.size,1,none⟩=some (.slice (some ⟨bE,oE,none⟩) n.edges.length xce)∧W.cell? ⟨bE,oE+k * 4,none⟩=some (.int .i64 e.fr)∧W.cell? ⟨bE,oE+k * 4+1,none⟩=some (.int .i64 e.to)∧W.cell? ⟨bE,oE+k * 4+2,none⟩=some (.slice ag e.guards.length cg)∧W.cell? ⟨bE,oE+k * 4+3,none⟩=some (.slice aS e.sets.length cs)∧W.cell? ⟨bl,ol+m * 2,none⟩=some (.int .i64 t.state)∧W.cell? ⟨bl,ol+m * 2+1,none⟩=some (.slice ta t.env.length tc)))
                      ((refine(fun h=>⟨h,HCq.out _ h⟩) ?_;first | with_reducible assumption | exact belR))
                      (first | (go_at_call 53;(with_reducible refine(HTk6.out _ (by first | with_reducible assumption | exact belR)).mono ?_);rintro e7 w7 ⟨rfl,hb7⟩))
                    all_goals
                      have HB7:Hid (Below we.heap.size we w7):=HBq.out.trans (Below.mono hb7 hzq)
                      clear hb7
                      have HI9:Hid (thE.In w7 (D (k+1)) ae2 ce2):=by show thE.In _ _ _ _;rw[HD4.out];exact HIe.out.keep (keeps_of_below HB7.out)
                      have HX9:Hid (w7.heap[w.heap.size]? = some (.cells #[.int .i64 n.states,.slice (some ⟨bE,oE,none⟩) n.edges.length xce,.slice xaa n.accept.length xca] 33 (0,0))):=(HB7.out.block _ hze).trans HXe.out
                      have HB9:Hid (Below w.heap.size w w7):=HBe.out.trans (HB7.out.mono HBe.out.size)
                      go_wp2_with fail
                      go_roundw
                      case rel=>exact⟨k+1,ae2,ce2,by go_num,by rw[HD4.out],by omega,HI9.out,HX9.out,HB9.out⟩
                      case measure=>(simp[intOf];try omega)
                  | some loc =>
                    have HD4:Hid (D (k+1)=insL cmpThr (D k) ⟨e.to,loc⟩):=HD3.out
                    have HTk6:Hid (∀ W,Below Wq.heap.size Wq W→Calls Tryz.prog 53 #[.agg #[.int .i64 e.fr,.int .i64 e.to,.slice ag e.guards.length cg,.slice aS e.sets.length cs],.slice ta t.env.length tc,.slice ae env.length ce] W fun e w'=>(∃ a c,e=.returned (.tuple #[.slice a loc.length c,.bool true])∧sgE.In w' loc a c)∧Below Wq.heap.size Wq w'):=HTk5.out
                    clear HTk5
                    go_region_held3 (fun W=>Below Wq.heap.size Wq W∧(W.cell? ⟨w.heap.size,1,none⟩=some (.slice (some ⟨bE,oE,none⟩) n.edges.length xce)∧W.cell? ⟨bE,oE+k * 4,none⟩=some (.int .i64 e.fr)∧W.cell? ⟨bE,oE+k * 4+1,none⟩=some (.int .i64 e.to)∧W.cell? ⟨bE,oE+k * 4+2,none⟩=some (.slice ag e.guards.length cg)∧W.cell? ⟨bE,oE+k * 4+3,none⟩=some (.slice aS e.sets.length cs)∧W.cell? ⟨bl,ol+m * 2,none⟩=some (.int .i64 t.state)∧W.cell? ⟨bl,ol+m * 2+1,none⟩=some (.slice ta t.env.length tc)))
                      ((refine(fun h=>⟨h,HCq.out _ h⟩) ?_;first | with_reducible assumption | exact belR))
                      (first | (go_at_call 53;(with_reducible refine(HTk6.out _ (by first | with_reducible assumption | exact belR)).mono ?_);rintro e7 w7 ⟨⟨a7,c7,rfl,hin7⟩,hb7⟩))
                    all_goals
                      have HB7q:Hid (Below Wq.heap.size Wq w7):=hb7
                      have HB7:Hid (Below we.heap.size we w7):=HBq.out.trans (Below.mono hb7 hzq)
                      have HI7:Hid (thE.In w7 (D k) ae2 ce2):=HIe.out.keep (keeps_of_below HB7.out)
                      have HIns:=Lib.hid (rinsert_any (D k) ae2 ce2 ⟨e.to,loc⟩ a7 c7 w7 HI7.out (sgE_in.1 hin7) hak (by omega))
                      unfold RThRet at HIns
                      simp only at HIns
                      rw[← HD4.out] at HIns
                      obtain⟨q0,q1,q2,q3,q4,q5,q6⟩:=HCq.out w7 HB7q.out
                      have hx7:=(HB7.out.block _ hze).trans HXe.out
                      have HX7:=Lib.hid hx7
                      have HB8:Hid (Below w.heap.size w w7):=HBe.out.trans (HB7.out.mono HBe.out.size)
                      clear hb7 hin7 p0 p1 p2 p3 p4 p5 p6 hx7
                      go_wp2_with (go_at_call 54;go_must (refine HIns.out.mono ?_;rintro e9 w9 ⟨⟨a9,c9,rfl,hin9⟩,hb9⟩))
                      have HI9:=Lib.hid hin9
                      have HX9:Hid (w9.heap[w.heap.size]? = some (.cells #[.int .i64 n.states,.slice (some ⟨bE,oE,none⟩) n.edges.length xce,.slice xaa n.accept.length xca] 33 (0,0))):=(hb9.block _ (lt_of_block HX7.out)).trans HX7.out
                      have HB9:Hid (Below w.heap.size w w9):=HB8.out.trans (hb9.mono HB8.out.size)
                      clear hin9 hb9
                      go_roundw
                      case rel=>exact⟨k+1,a9,c9,by go_num,rfl,by omega,HI9.out,HX9.out,HB9.out⟩
                      case measure=>(simp[intOf];try omega)
                · have HD3:Hid (D (k+1)=D k):=by show _=_;rw[HD2.out];unfold stepE;rw[if_neg hfr]
                  have hfb:(e.fr != t.state)=true:=by simp[hfr]
                  have HB9:Hid (∀ q,Below w.heap.size w (World.drewN we q)):=fun q=>below_drewN HBe.out q
                  clear hfr
                  go_wp2_with fail
                  go_quiet (fail)
                  go_wp2_with fail
                  go_roundw
                  case rel=>exact⟨k+1,ae2,ce2,by go_num,by rw[HD3.out],by omega,(by rw[HD3.out];exact HIe.out.keep (keeps_of_below (below_drewN (Below.refl _ _) _))),((below_drewN (Below.refl we.heap.size we) _).block _ hze).trans HXe.out,HB9.out _⟩
                  case measure=>(simp[intOf];try omega)
              · obtain rfl:k=n.edges.length:=by omega
                have HI7:Hid (thE.In we (OT (m+1)) ae2 ce2):=by show thE.In _ _ _ _;rw[HT2.out];exact HIe.out
                go_wp2_with fail
                go_roundw
                case rel=>exact⟨m+1,ae2,ce2,by go_num,by rw[HT2.out],by omega,HI7.out,HXe.out,HBe.out⟩
                case measure=>(simp[intOf];try omega)
          · obtain rfl:m=l.length:=by omega
            by_cases hbig:256 < (OT l.length).length
            · have HE1:=Lib.hid (HBg.out hbig _ HBd.out)
              have hbI:((256:Int) < ((OT l.length).length:Int)):=by omega
              go_wp2_with fail
              first | exact HE1.out | (go_ret2;exact HE1.out)
            · have HE1:=Lib.hid (HYs.out hbig _ _ _ HBd.out HI.out)
              have hbI:¬ ((256:Int) < ((OT l.length).length:Int)):=by omega
              go_wp2_with fail
              first | exact HE1.out | (go_ret2;exact HE1.out)
end Go.Proofs.YthojpomoflhbcaaGreatDoor
namespace Go.Proofs.YthojpomoflhbcaaGreatDoor
open Go.RowKit
attribute [local go_sem ↓] Go.wp_at_zero Go.wp_at_succ
set_option maxRecDepth 100000 in
set_option maxHeartbeats 8000000 in
theorem NfaSteps_any (n:NfaD) (y:NfaA) (l:List ThrD) (al:Option Addr) (cl:Nat) (env:List Sg) (ae:Option Addr) (ce:Nat) (w:World) (hN:NfaIn w n y) (hL:thE.In w l al cl) (hE:SigsIn w env ae ce) (hG:Glob w) :
  Calls Tryz.prog 4 #[nfaVal n y,.slice al l.length cl,.slice ae env.length ce] w (BoolRet true w):=by
 have HSm:Hid (∀ W,Below w.heap.size w W→Calls Tryz.prog 16 #[nfaVal n y] W (BrRet (SmNfa n) W)):=fun W hW=>smallN_any n y W (hN.keep (keeps_of_below hW))
 have HTh:Hid (∀ W,Below w.heap.size w W→Calls Tryz.prog 17 #[.slice al l.length cl] W (BrRet (SmThr l) W)):=fun W hW=>threads_any l al cl W (hL.keep (keeps_of_below hW))
 have HBr:Hid (∀ W,Below w.heap.size w W→Calls Tryz.prog 18 #[.slice ae env.length ce] W (BrRet (env.length≤40) W)):=fun W hW=>brief_any env ae ce W (hE.keep (keeps_of_below hW))
 have HAw:Hid (∀ W,Below w.heap.size w W→Calls Tryz.prog 12 #[] W fun e w'=>e=.returned (.bool true)∧Below W.heap.size W w'):=fun W hW=>awakeD_any W (hG.below hW)
 have HSp:Hid (SmNfa n→SmThr l→env.length≤40→∀ W,Below w.heap.size w W→Calls Tryz.prog 19 #[nfaVal n y,.slice al l.length cl,.slice ae env.length ce] W fun e w'=>(∃ a c,e=.returned (.tuple #[.slice a (nstepS n l env).1.length c,.int .i64 (nstepS n l env).2])∧thE.In w' (nstepS n l env).1 a c)∧Below W.heap.size W w'):=fun h1 h2 h3 W hW =>
  (step_any noneT n y l al cl env ae ce W (fun j hj=>by cases hj) (hG.below hW) (hN.keep (keeps_of_below hW)) h1.small h1.step (hL.keep (keeps_of_below hW)) (by have:=h2.1;omega) (fun t ht=>by have:=h2.2 t ht;omega) (sgE_in.2 (hE.keep (keeps_of_below hW))) (by omega)).mono fun e w' ⟨⟨a,c,h4,h5⟩,h6⟩=>⟨⟨a,c,h4,h5.keep hide_cell⟩,h6⟩
 have HSr:Hid (SmNfa n→SmThr l→env.length≤40→∀ W,Below w.heap.size w W→Calls Tryz.prog 20 #[nfaVal n y,.slice al l.length cl,.slice ae env.length ce] W fun e w'=>(∃ a c,e=.returned (.tuple #[.slice a (nstepS n l env).1.length c,.int .i64 (nstepS n l env).2])∧thE.In w' (nstepS n l env).1 a c)∧Below W.heap.size W w'):=fun h1 h2 h3 W hW =>
  rstep_any n y l al cl env ae ce W (hN.keep (keeps_of_below hW)) h1.small h1.step (hL.keep (keeps_of_below hW)) (by have:=h2.1;omega) (fun t ht=>by have:=h2.2 t ht;omega) (sgE_in.2 (hE.keep (keeps_of_below hW))) (by omega)
 have HSa:Hid (∀ (r:List ThrD) W a1 c1 a2 c2,thE.In W r a1 c1→thE.In W r a2 c2→Calls Tryz.prog 21 #[.slice a1 r.length c1,.slice a2 r.length c2] W fun e w'=>e=.returned (.bool true)∧Below W.heap.size W w'):=fun r W a1 c1 a2 c2 h1 h2=>rsameThr_eq r a1 c1 a2 c2 W h1 h2
 have HPo:Hid (∀ W,Below w.heap.size w W→BoolRet true w (.returned (.bool true)) W):=fun W hW=>⟨rfl,hW⟩
 generalize BoolRet true w=Po at HPo⊢
 generalize nstepS n l env=R at HSp HSr
 rw[nfaVal_eq] at HSm HSp HSr⊢
 clear hN hL hE hG
 obtain⟨xae,xce,xaa,xca⟩:=y
 simp only at HSm HSp HSr⊢
 go_enter Tryz.func4, Tryz.ntmps4
 go_upto_region 1 with fail
 generalize hW2:World.alloc w _=W2
 have HB2:Hid (Below w.heap.size w W2):=by show Below _ _ _;rw[← hW2];exact(Below.refl _ _).alloc (Nat.le_refl _) _
 have HX2:Hid (W2.heap[w.heap.size]? = some (.cells #[.int .i64 n.states,.slice xae n.edges.length xce,.slice xaa n.accept.length xca] 33 (0,0))):=by show _=_;rw[← hW2];exact hx_newT rfl
 have hz2:w.heap.size+1≤W2.heap.size:=by rw[← hW2];simp
 clear hW2
 have HXw:Hid (∀ W,Below W2.heap.size W2 W→W.cell? ⟨w.heap.size,0,none⟩=some (.int .i64 n.states)∧W.cell? ⟨w.heap.size,1,none⟩=some (.slice xae n.edges.length xce)∧W.cell? ⟨w.heap.size,2,none⟩=some (.slice xaa n.accept.length xca)):=fun W hW=>cell3T ((hW.block _ (by omega)).trans HX2.out)
 obtain⟨b0,b1,b2⟩:=HXw.out W2 (Below.refl _ _)
 go_wp2_with fail
 refine(HSm.out W2 HB2.out).mono ?_
 rintro r w3 ⟨⟨b,rfl,hsm⟩,hb3⟩
 have HB3:Hid (Below w.heap.size w w3):=HB2.out.trans (hb3.mono HB2.out.size)
 have HBx3:Hid (Below W2.heap.size W2 w3):=hb3
 clear hb3 b0 b1 b2
 cases b with
 | false =>
  clear hsm
  go_wp2_with fail
  refine(HAw.out _ HB3.out).mono ?_
  rintro r w4 ⟨rfl,hb4⟩
  have HF:=Lib.hid (HPo.out _ (HB3.out.trans (hb4.mono HB3.out.size)))
  clear hb4
  go_wp2_with fail
  first | exact HF.out | (go_ret2;exact HF.out)
 | true =>
  have hsm2:=hsm rfl
  clear hsm
  go_wp2_with fail
  refine(HTh.out w3 HB3.out).mono ?_
  rintro r w4 ⟨⟨b,rfl,hth⟩,hb4⟩
  have HB4:Hid (Below w.heap.size w w4):=HB3.out.trans (hb4.mono HB3.out.size)
  have HBx4:Hid (Below W2.heap.size W2 w4):=HBx3.out.trans (hb4.mono HBx3.out.size)
  clear hb4
  cases b with
  | false =>
   clear hth
   go_wp2_with fail
   refine(HAw.out _ HB4.out).mono ?_
   rintro r w5 ⟨rfl,hb5⟩
   have HF:=Lib.hid (HPo.out _ (HB4.out.trans (hb5.mono HB4.out.size)))
   clear hb5
   go_wp2_with fail
   first | exact HF.out | (go_ret2;exact HF.out)
  | true =>
   have hth2:=hth rfl
   clear hth
   go_wp2_with fail
   refine(HBr.out w4 HB4.out).mono ?_
   rintro r w5 ⟨⟨b,rfl,hbr⟩,hb5⟩
   have HB5:Hid (Below w.heap.size w w5):=HB4.out.trans (hb5.mono HB4.out.size)
   have HBx5:Hid (Below W2.heap.size W2 w5):=HBx4.out.trans (hb5.mono HBx4.out.size)
   clear hb5
   cases b with
   | false =>
    clear hbr
    go_wp2_with fail
    refine(HAw.out _ HB5.out).mono ?_
    rintro r w6 ⟨rfl,hb6⟩
    have HF:=Lib.hid (HPo.out _ (HB5.out.trans (hb6.mono HB5.out.size)))
    clear hb6
    go_wp2_with fail
    first | exact HF.out | (go_ret2;exact HF.out)
   | true =>
    have HSp2:=Lib.hid (HSp.out hsm2 hth2 (hbr rfl))
    have HSr2:=Lib.hid (HSr.out hsm2 hth2 (hbr rfl))
    clear hbr hsm2 hth2 HSp HSr
    obtain⟨b0,b1,b2⟩:=HXw.out w5 HBx5.out
    go_wp2_with fail
    refine(HSp2.out w5 HB5.out).mono ?_
    rintro r w6 ⟨⟨a6,c6,rfl,hin6⟩,hb6⟩
    have HB6:Hid (Below w.heap.size w w6):=HB5.out.trans (hb6.mono HB5.out.size)
    have HBx6:Hid (Below W2.heap.size W2 w6):=HBx5.out.trans (hb6.mono HBx5.out.size)
    have HI6:=Lib.hid hin6
    clear hb6 hin6 b0 b1 b2
    obtain⟨b0,b1,b2⟩:=HXw.out w6 HBx6.out
    go_wp2_with fail
    refine(HSr2.out w6 HB6.out).mono ?_
    rintro r w7 ⟨⟨a7,c7,rfl,hin7⟩,hb7⟩
    have HB7:Hid (Below w.heap.size w w7):=HB6.out.trans (hb7.mono HB6.out.size)
    have HSa7:=Lib.hid (HSa.out R.1 w7 a6 c6 a7 c7 (HI6.out.keep (keeps_of_below hb7)) hin7)
    clear hb7 hin7 b0 b1 b2
    have hq:(R.2 == R.2)=true:=by simp
    go_wp2_with fail
    refine HSa7.out.mono ?_
    rintro r w8 ⟨rfl,hb8⟩
    have HB8:Hid (Below w.heap.size w w8):=HB7.out.trans (hb8.mono HB7.out.size)
    clear hb8
    go_wp2_with fail
    refine(HAw.out _ HB8.out).mono ?_
    rintro r w9 ⟨rfl,hb9⟩
    have HF:=Lib.hid (HPo.out _ (HB8.out.trans (hb9.mono HB8.out.size)))
    clear hb9
    go_wp2_with fail
    first | exact HF.out | (go_ret2;exact HF.out)
end Go.Proofs.YthojpomoflhbcaaGreatDoor
