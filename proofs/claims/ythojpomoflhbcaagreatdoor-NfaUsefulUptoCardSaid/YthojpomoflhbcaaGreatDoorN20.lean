/- The edges of two automata run beside each other are small. -/
import Derived.Test.YthojpomoflhbcaaGreatDoorN14
import Derived.Test.YthojpomoflhbcaaGreatDoorN13
import Derived.Test.YthojpomoflhbcaaGreatDoorN17
set_option linter.unusedSimpArgs false
set_option linter.unusedVariables false
set_option linter.unnecessarySimpa false
namespace Go.Proofs.YthojpomoflhbcaaGreatDoor
def SmJ (j:Joint):Prop:=∀ e∈j.edges,SmallEd e
theorem toJ_sm {i:Nat} {g:List Ex} {j:Joint} {q:Int × Int} (hj:SmJ j) (hg:SmallX g):SmJ (toJ i g j q):=by
 intro e he
 simp only[toJ,List.mem_append,List.mem_singleton] at he
 rcases he with he | rfl
 ·exact hj e he
 ·exact⟨hg,fun b hb=>by cases hb⟩
theorem togJ_sm {i:Nat} {g:List Ex} {s t:Int} {l r:Bool} {j:Joint} (hj:SmJ j) (hg:SmallX g):SmJ (togJ i g s t l r j):=by
 unfold togJ
 exact fold_inv _ _ hj fun j q _ hj=>toJ_sm hj hg
theorem joint_sm {x y:NfaD} (hx:SmallN x) (hy:SmallN y):∀ m,SmJ (andAt x y m):=by
 intro m
 induction m with
 | zero=>rw[andAt_zero];intro e he;cases he
 | succ m ih =>
  rw[andAt_succ]
  unfold procJ
  split
  ·exact ih
  ·split
   ·exact ih
   ·split
    ·exact fold_inv _ _ ih fun j f hf hj=>togJ_sm hj (hy f (List.mem_filter.1 hf).1).gs
    ·split
     ·exact fold_inv _ _ ih fun j f hf hj=>togJ_sm hj (hx f (List.mem_filter.1 hf).1).gs
     ·refine fold_inv _ _ ih fun j e he hj=>fold_inv _ _ hj fun j f hf hj=>togJ_sm hj ?_
      intro g hg
      rcases List.mem_append.1 hg with h | h
      ·exact(hx e (List.mem_filter.1 he).1).gs g h
      ·exact(hy f (List.mem_filter.1 hf).1).gs g h
theorem jointN_sm {x y:NfaD} (hx:SmallN x) (hy:SmallN y) (m:Nat):SmallN (jointN (andAt x y m)):=fun e he=>joint_sm hx hy m e he
end Go.Proofs.YthojpomoflhbcaaGreatDoor
namespace Go.Proofs.YthojpomoflhbcaaGreatDoor
open Go.RowKit
theorem sum_le_mul {α:Type} {l:List α} {f g:α→Nat} {c:Nat} (h:∀ x∈l,f x≤g x * c):(l.map f).sum≤(l.map g).sum * c:=by
 induction l with
 | nil=>simp
 | cons a l ih =>
  simp only[List.map_cons,List.sum_cons,Nat.add_mul]
  have:=h a (List.mem_cons_self ..)
  have:=ih fun x hx=>h x (List.mem_cons_of_mem _ hx)
  omega
theorem nodes_len (e:Ex):e.nodes.length=1+(e.args.map fun a=>a.nodes.length).sum:=by
 rw[Ex.nodes_eq,List.length_cons,List.length_flatten,List.map_map]
 have:(List.length ∘ Ex.nodes)=fun a:Ex=>a.nodes.length:=rfl
 rw[this];omega
theorem nodes_pos (e:Ex):1≤e.nodes.length:=by rw[nodes_len];omega
theorem nodes_subst (nm:ByteArray) (b:Ex) (e:Ex):(substS nm b e).nodes.length≤e.nodes.length * b.nodes.length:=by
 have hb:=nodes_pos b
 induction e using Ex.ind with
 | h e ih =>
  rw[substS_eq]
  split
  ·have:=nodes_pos e
   calc b.nodes.length=1 * b.nodes.length:=by omega
    _≤_:=Nat.mul_le_mul_right _ this
  ·rw[nodes_len,nodes_len e]
   simp only[Ex.args_mk,List.map_map]
   have h1:(e.args.map ((fun a=>a.nodes.length) ∘ substS nm b)).sum≤(e.args.map fun a=>a.nodes.length).sum * b.nodes.length:=sum_le_mul (f:=(fun a:Ex=>a.nodes.length) ∘ substS nm b) fun x hx=>ih x hx
   rw[Nat.add_mul];omega
theorem undoS_zero (l:List BindD) (g:Ex):undoS l 0 g=g:=rfl
theorem undoS_big {l:List BindD} {k:Nat} {g:Ex} (h:¬ g.nodes.length≤400):undoS l k g=g:=by
 cases k with
 | zero=>rfl
 | succ k=>rw[undoS,if_neg h]
theorem undoS_step {l:List BindD} {k:Nat} {g:Ex} (hk:k < l.length) (h:g.nodes.length≤400):undoS l (k+1) g=undoS l k (substS (l[k]'hk).name (l[k]'hk).expr g):=by
 rw[undoS,if_pos h,List.getElem?_eq_getElem hk]
theorem undoS_nodes {l:List BindD} (hl:∀ b∈l,b.expr.nodes.length≤400):∀ (k:Nat) (g:Ex),g.nodes.length≤160000→(undoS l k g).nodes.length≤160000:=by
 intro k
 induction k with
 | zero=>intro g h;exact h
 | succ k ih =>
  intro g h
  rw[undoS]
  split
  ·rename_i h2
   refine ih _ ?_
   cases hk:l[k]? with
   | none=>exact h
   | some b =>
    have hb:=hl b (List.mem_of_getElem? hk)
    have:=nodes_subst b.name b.expr g
    calc _≤g.nodes.length * b.expr.nodes.length:=this
     _≤400 * 400:=Nat.mul_le_mul h2 hb
     _≤_:=by decide
  ·exact h
theorem okX_nodes {g:Ex} (h:okX g=true):g.nodes.length≤400:=by
 unfold okX validS at h
 split at h
 ·simp at h
 ·rename_i h2
  simp only[not_and,not_or] at h2
  have:=(h2 (by simpa using h)).2
  omega
theorem okBd_nodes {b:BindD} (h:okBd b=true):b.expr.nodes.length≤400:=by
 unfold okBd at h
 simp only[Bool.and_eq_true] at h
 exact okX_nodes h.2
theorem ok_small {n:NfaD} (h:nfaOk n=true) {e:EdgeD} (he:e∈n.edges):(∀ g∈e.guards,g.nodes.length≤400)∧∀ b∈e.sets,b.expr.nodes.length≤400:=by
 have:=edgeOk_iff.1 ((nfaOk_iff.1 h).2.1 e he)
 exact⟨fun g hg=>okX_nodes (this.2.1 g hg),fun b hb=>okBd_nodes (this.2.2 b hb)⟩
end Go.Proofs.YthojpomoflhbcaaGreatDoor
namespace Go.Proofs.YthojpomoflhbcaaGreatDoor
open Go.RowKit
attribute [local go_sem ↓] Go.wp_at_zero Go.wp_at_succ
theorem repE_succ (n:NfaD) (c:Nat):repE n (c+1+1)=repE n (c+1)++attachL (n.accept.map fun a=>(c:Int) * (n.states - 1)+a) n (((c:Int)+1) * (n.states - 1))++restL n (((c:Int)+1) * (n.states - 1)):=by
 show repE n (c+1)++attachL (n.accept.map fun a=>(((c+1:Nat):Int) - 1) * (n.states - 1)+a) n (((c+1:Nat):Int) * (n.states - 1))++restL n (((c+1:Nat):Int) * (n.states - 1))=_
 rw[show (((c+1:Nat):Int) - 1)=(c:Int) by omega,show ((c+1:Nat):Int)=(c:Int)+1 by omega]
theorem repA_succ (n:NfaD) (lo:Int) (c:Nat):repA n lo (c+1)=repA n lo c++(if lo≤c+1 then n.accept.map (fun a=>(c:Int) * (n.states - 1)+a) else []):=by
 unfold repA;rw[List.range_succ,List.flatMap_append,List.flatMap_singleton]
theorem acc_len {K:Nat} {x:NfaD} (hr:RegN K x):x.accept.length≤256:=by
 have h:=accB_iff.1 (nfaOk_iff.1 hr.ok).2.2
 have hst:=hr.st
 have:∀ (l:List Int) (lo:Int),(∀ a∈l,lo≤a∧a < 256)→l.Pairwise (· < ·)→(l.length:Int)≤256 - lo∨l.length=0:=by
  intro l
  induction l with
  | nil=>intro lo _ _;exact Or.inr rfl
  | cons y l ih =>
   intro lo h1 h2
   have hp2:=List.pairwise_cons.1 h2
   have hy:=h1 y (List.mem_cons_self ..)
   rcases ih (y+1) (fun a ha=>⟨by have:=hp2.1 a ha;omega,(h1 a (List.mem_cons_of_mem _ ha)).2⟩) hp2.2 with h3 | h3
   ·left;rw[List.length_cons];omega
   ·left;rw[List.length_cons,h3];omega
 have:=this x.accept 0 (fun a ha=>by have:=h.1 a ha;omega) h.2
 omega
theorem repA_len (n:NfaD) (lo:Int):∀ c:Nat,(repA n lo c).length≤c * n.accept.length:=by
 intro c
 induction c with
 | zero=>simp[repA]
 | succ c ih =>
  rw[repA_succ,List.length_append,Nat.add_mul,Nat.one_mul]
  have:(if lo≤(c:Int)+1 then n.accept.map (fun a=>(c:Int) * (n.states - 1)+a) else []).length≤n.accept.length:=by
   split
   ·rw[List.length_map];exact Nat.le_refl _
   ·simp
  omega
def endsR (n:NfaD) (c:Nat):List Int:=n.accept.map fun a=>(c:Int) * (n.states - 1)+a
def endsB (n:NfaD):Nat→List Int
 | 0=>[]
 | c+1=>endsR n c
set_option maxHeartbeats 32000000 in
set_option maxRecDepth 100000 in
theorem repeat_any {p:Nat→Bool} {k:Nat} {w0 w:World} (hk:w0.heap.size≤k) (hblk:w.heap[k]? = some (.cells #[.int .i64 0,.slice none 0 0,.slice none 0 0,.bool false] 134 (0,0))) (hb:Below w0.heap.size w0 w) (hp:∀ j,p j=true→j < w0.heap.size)
    (s:Tq) (ae:Option Addr) (ce:Nat) (a:Option Addr) (cap:Nat) (x:NfaD) (ax:NfaA) {K:Nat} (hrx:RegN K x) (hlo:1≤s.lo) (hlh:s.lo≤s.hi) (hhi:s.hi≤16) (hx:NfaIn (World.hide w0 p) x ax) :
    Calls Tryz.prog 85 #[.pointer (some ⟨k,0,none⟩),tqVal s ae ce a cap,nfaVal x ax] w (BldP p k w0 (repN s.lo s.hi x)):=by
  have hkw:=lt_of_block hblk
  have hel:=hx.es.len
  have hacl:=hx.ac.2.1
  obtain⟨hst1,hst2⟩:=hrx.st
  have HXE:=Lib.hid hx.es
  have HXC:=Lib.hid hx.ac
  have HXA:Hid (x.edges.length=0∨∃ b off,ax.ae=some ⟨b,off,none⟩):=hx.es.addr
  have HXCA:Hid (x.accept.length=0∨∃ b off,ax.aa=some ⟨b,off,none⟩):=SliceIn.addr hx.ac
  have Hp:=Lib.hid hp
  have HYE:=Lib.hid hrx.ends
  have HXacc:=Lib.hid hrx.acc
  have hal:x.accept.length≤256:=acc_len hrx
  have HYel:Hid (∀ (ve va:Value) (W:World),BldS (qk p k) k w0 W (1+s.hi * (x.states - 1)) (repE x s.hi.toNat) (repA x s.lo s.hi.toNat) ve va→BldP p k w0 (repN s.lo s.hi x) (.returned (.tuple #[])) W):=fun ve va W h=>h.post hp rfl rfl rfl (Nat.le_trans (repA_len x s.lo s.hi.toNat) (by have:s.hi.toNat≤16:=(by omega);calc s.hi.toNat * x.accept.length≤16 * 256:=Nat.mul_le_mul this hal
                                                                                                                                                                                                                                          _≤_:=by decide))
  clear hx hp hrx
  generalize BldP p k w0 (repN s.lo s.hi x)=Po at HYel⊢
  rw[tqVal_eq,nfaVal_eq]
  obtain⟨c0,c1,c2,c3,f0⟩:=cell4B hblk
  have f00:=f0 0
  have HBlk:=Lib.hid hblk
  have hm0:0≤s.hi * (x.states - 1):=Int.mul_nonneg (by omega) (by omega)
  have hm1:s.hi * (x.states - 1)≤16 * 255:=Int.le_trans (Int.mul_le_mul_of_nonneg_right hhi (by omega)) (Int.mul_le_mul_of_nonneg_left (by omega) (by decide))
  clear f0 c1 c3 c2 hblk
  go_enter Tryz.func85, Tryz.ntmps85
  go_wp2_with fail
  obtain⟨xae,xce,xaa,xca⟩:=ax
  simp only at HXE HXA HXC HXCA⊢
  generalize hSTd:1+s.hi * (x.states - 1)=ST at *
  generalize hW4:World.alloc (World.alloc (World.setCell w _ _) _) _=W4
  have hblk4:W4.heap[k]? = some (.cells #[.int .i64 ST,.slice none 0 0,.slice none 0 0,.bool false] 134 (0,0)):=by
    rw[← hW4]
    refine hx_oldT (hx_oldT ?_)
    rw[blk_set HBlk.out 0];rfl
  have hbs4:W4.heap[w.heap.size]? = some (.cells #[.int .i64 s.op,.int .i64 s.lo,.int .i64 s.hi,.int .i64 s.expr.op,.int .i64 s.expr.n,.string s.expr.name,.slice ae s.expr.args.length ce,.string s.name,.slice a s.args.length cap] 27 (0,0)):=by
    rw[← hW4]
    exact hx_oldT (hx_newT (by simp))
  have hbx4:W4.heap[w.heap.size+1]? = some (.cells #[.int .i64 x.states,.slice xae x.edges.length xce,.slice xaa x.accept.length xca] 33 (0,0)):=by
    rw[← hW4]
    exact hx_newT (by simp)
  have hb4:Below w0.heap.size w0 W4:=by
    rw[← hW4]
    have hz:=hb.size
    exact((hb.setCell hk _).alloc (by simp;omega) _).alloc (by simp;omega) _
  have hz4:w.heap.size+2≤W4.heap.size:=by rw[← hW4];simp
  clear hW4 c0 f00 hSTd hm0 hm1
  have HS4:Hid (BldS (qk p k) k w0 W4 ST [] [] (.slice none 0 0) (.slice none 0 0)):=BldS.mk0 hk hblk4 hb4
  have HBS:Hid (∀ wr ve va,BF k W4 ve va wr→wr.heap[w.heap.size]? = some (.cells #[.int .i64 s.op,.int .i64 s.lo,.int .i64 s.hi,.int .i64 s.expr.op,.int .i64 s.expr.n,.string s.expr.name,.slice ae s.expr.args.length ce,.string s.name,.slice a s.args.length cap] 27 (0,0))):=fun wr ve va h=>(h.block w.heap.size (by omega) (by omega)).trans hbs4
  have HBX:Hid (∀ wr ve va,BF k W4 ve va wr→wr.heap[w.heap.size+1]? = some (.cells #[.int .i64 x.states,.slice xae x.edges.length xce,.slice xaa x.accept.length xca] 33 (0,0))):=fun wr ve va h=>(h.block (w.heap.size+1) (by omega) (by omega)).trans hbx4
  have HKP:Hid (∀ {wr st L A ve va},BldS (qk p k) k w0 wr st L A ve va→Kp (World.hide w0 p) (World.hide wr (hid (hid (qk p k) va) ve))):=fun h=>h.kp (qk_old hk)
  have HQL:Hid (∀ {wr st L A ve va},BldS (qk p k) k w0 wr st L A ve va→∀ j,hid (hid (qk p k) va) ve j=true→j < wr.heap.size):=fun h j hj=>by
    rcases hid_true.1 hj with h1 | h1
    · rcases hid_true.1 h1 with h2 | h2
      · rcases qk_true.1 h2 with h3 | h3
        · have:=Hp.out j h3;have:=h.sz;omega
        · subst h3;exact h.e.klt
      · exact(h.alt j h2).2
    · exact(h.e.vlt j h1).2
  clear hblk4 hbs4 hbx4 hb4 hb HBlk
  have HRA:Hid (∀ m,(repA x s.lo m).length≤m * x.accept.length):=fun m=>repA_len x s.lo m
  go_loopw [7,6,8,10,12,14] (fun c en _ _ _ _ wr=>∃ (m:Nat) (ve va:Value) (al:Option Addr) (cl:Nat),c=.int .i64 ((m:Int)+1)∧en=.slice al (endsB x m).length cl∧m≤s.hi.toNat∧Hid (BldS (qk p k) k w0 wr ST (repE x m) (repA x s.lo m) ve va)∧Hid (BF k W4 ve va wr)∧Hid (IntsIn (World.hide wr (hid (hid (qk p k) va) ve)) (endsB x m) al cl)) (fun c _ _ _ _ _ _=>s.hi.toNat+1 - (intOf c).toNat)
  case atStart=>exact⟨0,.slice none 0 0,.slice none 0 0,none,0,rfl,rfl,Nat.zero_le _,HS4.out,BF.refl _ _,inE_in.1 (Enc.In.nil _)⟩
  case round =>
    obtain⟨m,ve,va,al,cl,rfl,rfl,hm,HD,HF,HEn⟩:=hrel
    have hzr:=HF.out.size
    have hbs:=HBS.out _ _ _ HF.out
    obtain⟨-,s1,s2,-⟩:=cell9T hbs
    clear hbs
    by_cases hlt:m < s.hi.toNat
    · have hltI:(m:Int)+1≤s.hi:=by omega
      have hm15:m≤15:=by omega
      have hbx:=HBX.out _ _ _ HF.out
      obtain⟨x0,x1,x2⟩:=cell3T hbx
      clear hbx
      have hp0:0≤(m:Int) * (x.states - 1):=Int.mul_nonneg (by omega) (by omega)
      have hp1:(m:Int) * (x.states - 1)≤15 * 255:=Int.le_trans (Int.mul_le_mul_of_nonneg_right (show (m:Int)≤15 by omega) (by omega)) (Int.mul_le_mul_of_nonneg_left (by omega) (by decide))
      have hp2:(m:Int) * (x.states - 1)≤100000:=by omega
      have HRE0:Hid (m=0→repE x m=[]∧repE x (m+1)=x.edges):=fun h=>by subst h;exact⟨rfl,rfl⟩
      have HRES:Hid (0 < m→repE x (m+1)=repE x m++attachL (endsB x m) x ((m:Int) * (x.states - 1))++restL x ((m:Int) * (x.states - 1))):=fun h=>by
        obtain⟨c,rfl⟩:∃ c,m=c+1:=⟨m - 1,by omega⟩
        rw[repE_succ,show ((c+1:Nat):Int)=(c:Int)+1 by omega];rfl
      have HRAS:Hid (repA x s.lo (m+1)=repA x s.lo m++(if s.lo≤(m:Int)+1 then endsB x (m+1) else [])):=by
        show _=_
        rw[repA_succ];rfl
      have HEB:Hid (endsB x (m+1)=x.accept.map (fun a=>(m:Int) * (x.states - 1)+a)):=rfl
      go_upto_if 39 with fail
      clear x0 x1 x2 s1 s2
      generalize (m:Int) * (x.states - 1)=B at *
      obtain⟨R1,hR1⟩:∃ R1,repE x (m+1)=R1:=⟨_,rfl⟩
      rw[hR1] at HRE0 HRES
      have HR1:=Lib.hid hR1
      clear hR1
      go_cut [] from 38 to 74 (fun wx=>∃ ve,Hid (BldS (qk p k) k w0 wx ST R1 (repA x s.lo m) ve va)∧Hid (BF k W4 ve va wx))
      case first =>
        rcases Nat.eq_zero_or_pos m with h0 | h0
        · rw[show ((m:Int)+1 == 1)=true from by simp[h0]]
          have HDz:Hid (BldS (qk p k) k w0 wr ST (x.edges.take 0) (repA x s.lo m) ve va):=by
            show BldS _ _ _ _ _ _ _ _ _
            have:=HD.out
            rw[(HRE0.out h0).1] at this
            simpa using this
          have HRx:Hid (R1=x.edges):=(HRE0.out h0).2
          have hbx:=HBX.out _ _ _ HF.out
          obtain⟨x0,x1,x2⟩:=cell3T hbx
          clear h0 hbx HD HRE0 HRES HEn
          go_wp2_with fail
          rename World=>wa
          clear x0 x1 x2
          go_loopw [43,10] (fun i _ wr=>∃ (t:Nat) (ve:Value),i=.int .i64 t∧t≤x.edges.length∧Hid (BldS (qk p k) k w0 wr ST (x.edges.take t) (repA x s.lo m) ve va)∧Hid (BF k W4 ve va wr)) (fun i _ _=>x.edges.length - (intOf i).toNat)
          case atStart=>exact⟨0,ve,rfl,Nat.zero_le _,HDz.out,HF.out⟩
          case round =>
            clear HDz HF
            obtain⟨t,ve,rfl,ht,HD,HF⟩:=hrel
            by_cases hlt2:t < x.edges.length
            · obtain⟨bf,of,hfa⟩:=HXA.out.resolve_left (by omega)
              subst hfa
              have HK0:=Lib.hid (HKP.out HD.out)
              obtain⟨ag,cg,aS,cs,g0,g1,g2,g3,h1,h2⟩:=edE_get (HXE.out.keep HK0.out) rfl hlt2
              have e0:=hide_cell _ _ g0
              have e1:=hide_cell _ _ g1
              have e2:=hide_cell _ _ g2
              have e3:=hide_cell _ _ g3
              have HTn:Hid (x.edges.take t++[x.edges[t]'hlt2]=x.edges.take (t+1)):=(List.take_succ_eq_append_getElem hlt2).symm
              have HM:Hid (∀ W,Below wr.heap.size wr W→Calls Tryz.prog 136 #[.pointer (some ⟨k,0,none⟩),edVal (x.edges[t]'hlt2) ag cg aS cs] W (AddPost (hid (qk p k) va) k w0 W ST (x.edges.take t++[x.edges[t]'hlt2]) ve va)):=fun W hW=>add_any (HD.out.below hW).e (x.edges[t]'hlt2) ag cg aS cs (h1.keep (hid_below hW)) (h2.keep (hid_below hW))
              clear g0 g1 g2 g3 h1 h2
              unfold edVal at HM
              generalize (x.edges[t]'hlt2)=z at e0 e1 e2 e3 HTn HM
              go_wp2_with (go_at_call 136;go_must (refine(HM.out _ bel).mono ?_;rintro e w7 ⟨rfl,u',hD7,hS7⟩))
              have hBa:Below wr.heap.size wr (wr.alloc (.cells #[.int .i64 z.fr,.int .i64 z.to,.slice ag z.guards.length cg,.slice aS z.sets.length cs] 69)):=(Below.refl _ _).alloc (Nat.le_refl _) _
              have HD7:Hid (BldS (qk p k) k w0 w7 ST (x.edges.take (t+1)) (repA x s.lo m) u' va):=by
                show BldS _ _ _ _ _ _ _ _ _
                rw[← HTn.out];exact(HD.out.below hBa).step hD7 hS7
              have HF7:Hid (BF k W4 u' va w7):=(HF.out.below hBa).step hS7
              clear hD7 hS7 hBa
              go_roundw
              case rel=>exact⟨t+1,u',by go_num,by omega,HD7.out,HF7.out⟩
              case measure=>(simp[intOf];try omega)
            · obtain rfl:t=x.edges.length:=by omega
              have HDf:Hid (BldS (qk p k) k w0 wr ST R1 (repA x s.lo m) ve va):=by
                show BldS _ _ _ _ _ _ _ _ _
                have:=HD.out
                rw[List.take_length] at this
                rw[HRx.out];exact this
              go_wp2_with fail
              go_meet
              exact⟨ve,HDf,HF⟩
        · rw[show ((m:Int)+1 == 1)=false from by simp;omega]
          have HRx:=Lib.hid (HRES.out h0)
          have hbx:=HBX.out _ _ _ HF.out
          obtain⟨x0,x1,x2⟩:=cell3T hbx
          have HAt:Hid (Calls Tryz.prog 140 #[.pointer (some ⟨k,0,none⟩),.slice al (endsB x m).length cl,.agg #[.int .i64 x.states,.slice xae x.edges.length xce,.slice xaa x.accept.length xca],.int .i64 B] wr (AddPost (hid (qk p k) va) k w0 wr ST (repE x m++attachL (endsB x m) x B) ve va)):=by
            have h:=attach_any (q:=hid (qk p k) va) HD.out.e (fun j hj=>HQL.out HD.out j (hid_true.2 (Or.inl hj))) (endsB x m) al cl x ⟨xae,xce,xaa,xca⟩ B HEn.out (HXE.out.keep (HKP.out HD.out)) HYE.out hp0 hp2
            rw[nfaVal_eq] at h
            exact h
          clear hbx HRE0 HRES
          go_wp2_with fail
          refine HAt.out.mono ?_
          rintro e w7 ⟨rfl,u',hD7,hS7⟩
          have HD7:Hid (BldS (qk p k) k w0 w7 ST (repE x m++attachL (endsB x m) x B) (repA x s.lo m) u' va):=HD.out.step hD7 hS7
          have HF7:Hid (BF k W4 u' va w7):=HF.out.step hS7
          have hbx:=HBX.out _ _ _ HF7.out
          obtain⟨x0,x1,x2⟩:=cell3T hbx
          have HOt:Hid (Calls Tryz.prog 141 #[.agg #[.int .i64 x.states,.slice xae x.edges.length xce,.slice xaa x.accept.length xca]] w7 (EdsRet (hid (hid (qk p k) va) u') (othersL x) w7)):=by
            have h:=others_any (hid (hid (qk p k) va) u') x ⟨xae,xce,xaa,xca⟩ w7 (HXE.out.keep (HKP.out HD7.out)) (HQL.out HD7.out)
            rw[nfaVal_eq] at h
            exact h
          have HRy:Hid (R1=repE x m++attachL (endsB x m) x B++(othersL x).map (fun f=>mvE f (B+f.fr) (B+f.to))):=HRx.out
          have HFs:Hid (∀ t (h:t < (othersL x).length),0≤((othersL x)[t]'h).fr∧((othersL x)[t]'h).fr≤100000∧0≤((othersL x)[t]'h).to∧((othersL x)[t]'h).to≤100000):=fun t h=>HYE.out _ (List.mem_filter.1 (List.getElem_mem h)).1
          have hfl:(othersL x).length≤x.edges.length:=List.length_filter_le _ _
          generalize othersL x=F at HOt HRy HFs hfl
          generalize repE x m++attachL (endsB x m) x B=LE at HD7 HRy
          clear hbx hD7 hS7 HAt HD HF HRx HEn
          go_wp2_with fail
          refine HOt.out.mono ?_
          rintro e w5 ⟨⟨fa,fc,rfl,hF5⟩,hb5⟩
          have HF5:=Lib.hid hF5
          have HFA:Hid (F.length=0∨∃ b off,fa=some ⟨b,off,none⟩):=hF5.addr
          have HD5:=Lib.hid (HD7.out.below hb5)
          have HFf:=Lib.hid (HF7.out.below hb5)
          clear hF5 hb5 x0 x1 x2 HOt HD7 HF7
          go_wp2_with fail
          go_loopw [59,12] (fun i _ wr=>∃ (t:Nat) (v:Value),i=.int .i64 t∧t≤F.length∧Hid (BldS (qk p k) k w0 wr ST (LE++(F.take t).map fun f=>mvE f (B+f.fr) (B+f.to)) (repA x s.lo m) v va)∧Hid (BG k w5 u' va wr v va)) (fun i _ _=>F.length - (intOf i).toNat)
          case atStart=>exact⟨0,u',rfl,Nat.zero_le _,by simpa using HD5,BG.refl _ _ _ _⟩
          case round =>
            obtain⟨t,v,rfl,ht,HD,HG⟩:=hrel
            by_cases hlt2:t < F.length
            · obtain⟨bq,oq,hfa⟩:=HFA.out.resolve_left (by omega)
              subst hfa
              have HKg:Hid (Kp (World.hide w5 (hid (hid (qk p k) va) u')) (World.hide wr (hid (hid (qk p k) va) v))):=HG.out.kp (qk_true.2 (Or.inr rfl))
              obtain⟨ag2,cg2,aS2,cs2,g0,g1,g2,g3,h1,h2⟩:=edE_get (HF5.out.keep HKg.out) rfl hlt2
              have e0:=hide_cell _ _ g0
              have e1:=hide_cell _ _ g1
              have e2:=hide_cell _ _ g2
              have e3:=hide_cell _ _ g3
              have HTt:Hid ((LE++(F.take t).map fun f=>mvE f (B+f.fr) (B+f.to))++[mvE (F[t]'hlt2) (B+(F[t]'hlt2).fr) (B+(F[t]'hlt2).to)]=LE++(F.take (t+1)).map fun f=>mvE f (B+f.fr) (B+f.to)):=by
                show _=_
                rw[List.take_succ_eq_append_getElem hlt2,List.map_append,List.append_assoc];rfl
              have HFt:=HFs.out t hlt2
              have HM:Hid (∀ W,Below wr.heap.size wr W→Calls Tryz.prog 142 #[.pointer (some ⟨k,0,none⟩),edVal (F[t]'hlt2) ag2 cg2 aS2 cs2,.int .i64 (B+(F[t]'hlt2).fr),.int .i64 (B+(F[t]'hlt2).to)] W (AddPost (hid (qk p k) va) k w0 W ST ((LE++(F.take t).map fun f=>mvE f (B+f.fr) (B+f.to))++[mvE (F[t]'hlt2) (B+(F[t]'hlt2).fr) (B+(F[t]'hlt2).to)]) v va)):=fun W hW=>moved_any (HD.out.below hW).e (F[t]'hlt2) ag2 cg2 aS2 cs2 _ _ (h1.keep (hid_below hW)) (h2.keep (hid_below hW))
              clear g0 g1 g2 g3 h1 h2
              unfold edVal at HM
              generalize (F[t]'hlt2)=f at e0 e1 e2 e3 HTt HFt HM
              obtain⟨hq0,hq1,hq2,hq3⟩:=HFt
              go_wp2_with (go_at_call 142;go_must (refine(HM.out _ bel).mono ?_;rintro e w7 ⟨rfl,u2,hD7,hS7⟩))
              have hBa:Below wr.heap.size wr (wr.alloc (.cells #[.int .i64 f.fr,.int .i64 f.to,.slice ag2 f.guards.length cg2,.slice aS2 f.sets.length cs2] 69)):=(Below.refl _ _).alloc (Nat.le_refl _) _
              have HD7:Hid (BldS (qk p k) k w0 w7 ST (LE++(F.take (t+1)).map fun f=>mvE f (B+f.fr) (B+f.to)) (repA x s.lo m) u2 va):=by
                show BldS _ _ _ _ _ _ _ _ _
                rw[← HTt.out];exact(HD.out.below hBa).step hD7 hS7
              have HG7:=Lib.hid ((HG.out.below hBa).step hS7)
              clear hD7 hS7 hBa
              go_roundw
              case rel=>exact⟨t+1,u2,by go_num,by omega,HD7.out,HG7.out⟩
              case measure=>(simp[intOf];try omega)
            · obtain rfl:t=F.length:=by omega
              have HFc:Hid (BF k W4 v va wr):=HFf.out.then HG.out
              have HDf:Hid (BldS (qk p k) k w0 wr ST R1 (repA x s.lo m) v va):=by
                show BldS _ _ _ _ _ _ _ _ _
                have:=HD.out
                rw[List.take_length] at this
                rw[HRy.out];exact this
              go_wp2_with fail
              go_meet
              exact⟨v,HDf,HFc⟩
      case rest =>
        clear HD HF HRE0 HRES HEn
        obtain⟨ve,HD,HF⟩:=hcut
        have hzc:=HF.out.size
        have hbx:=HBX.out _ _ _ HF.out
        obtain⟨x0,x1,x2⟩:=cell3T hbx
        clear hbx
        go_wp2_with fail
        clear x0 x1 x2
        go_loopw [78,6,14] (fun i en _ wr=>∃ (t:Nat) (vE:Value),i=.int .i64 t∧vE=en∧t≤x.accept.length∧Hid (inE.Own 3 (fun _=>false) wr wc.heap.size vE ((x.accept.take t).map (B+·)))∧Hid (Below wc.heap.size wc wr)) (fun i _ _ _=>x.accept.length - (intOf i).toNat)
        case atStart=>exact⟨0,_,rfl,rfl,Nat.zero_le _,Enc.Own.nil _ _ _ _ _,Below.refl _ _⟩
        case round =>
          obtain⟨t,vE,rfl,hen,ht,HO,HB⟩:=hrel
          subst hen
          have hzq:=HB.out.size
          have hln:((x.accept.take t).map (B+·)).length=t:=by rw[List.length_map,List.length_take];omega
          by_cases hlt2:t < x.accept.length
          · obtain⟨bq,oq,hfa⟩:=HXCA.out.resolve_left (by omega)
            subst hfa
            have g0:=keeps_of_below HB.out _ _ (hide_cell _ _ (inE_at.1 ((inE_in.2 (HXC.out.keep (HKP.out HD.out))).get rfl hlt2)))
            rw[show inE.sz=1 from rfl,Nat.mul_one] at g0
            have hya:=HXacc.out _ (List.getElem_mem hlt2)
            have HTt:Hid ((x.accept.take t).map (B+·)++[B+x.accept[t]'hlt2]=(x.accept.take (t+1)).map (B+·)):=by
              show _=_
              rw[List.take_succ_eq_append_getElem hlt2,List.map_append];rfl
            obtain⟨AT,hAT⟩:∃ AT,(x.accept.take t).map (B+·)=AT:=⟨_,rfl⟩
            rw[hAT] at HTt hln HO
            generalize (x.accept[t]'hlt2)=z at g0 hya HTt
            obtain⟨av,cv,hv,_⟩:=HO.out.slice (by omega)
            rw[hln] at hv
            subst hv
            have HLn:=Lib.hid hln
            have ht30:t+1≤1073741824:=by omega
            obtain⟨hya1,hya2⟩:=hya
            clear hln hAT
            go_wp2_with (at_builtin;go_must (refine own_addE (E:=inE) elemIN _ rfl (.tmp 82) (.tmp 86) rfl (fun _=>false) wc.heap.size _ rfl HO.out (B+z) [.int .i64 (B+z)] rfl _ _ rfl rfl t HLn.out ht30 hzq ?_))
            intro g cap w7 ho hg hat
            have HO7:Hid (inE.Own 3 (fun _=>false) w7 wc.heap.size (.slice (some ⟨g,0,none⟩) (t+1) cap) ((x.accept.take (t+1)).map (B+·))):=by show Enc.Own _ _ _ _ _ _ _;rw[← HTt.out];exact ho
            have HB7:Hid (Below wc.heap.size wc w7):=HB.out.grown hg hzq fun j hj=>(own_vlt HO.out j hj).1
            clear ho hg hat
            go_wp2_with fail
            go_roundw
            case rel=>exact⟨t+1,_,by go_num,rfl,by omega,HO7.out,HB7.out⟩
            case measure=>(simp[intOf];try omega)
          · obtain rfl:t=x.accept.length:=by omega
            have HOe:Hid (inE.Own 3 (fun _=>false) wr wc.heap.size vE (endsB x (m+1))):=by
              show Enc.Own _ _ _ _ _ _ _
              have:=HO.out
              rw[List.take_length] at this
              rw[HEB.out];exact this
            have HLe:Hid ((endsB x (m+1)).length=x.accept.length):=by show _=_;rw[HEB.out,List.length_map]
            have HDw:=Lib.hid (HD.out.below HB.out)
            have HFw:=Lib.hid (HF.out.below HB.out)
            obtain⟨ae2,ce2,hv,hEin⟩:=(inOwn_q (q:=hid (hid (qk p k) va) ve) HOe.out).sliceP (by rw[HLe.out];exact hacl) (fun j hj=>by
              cases e:hid (hid (qk p k) va) ve j with
              | false=>rfl
              | true=>have:=HQL.out HD.out j e;omega)
            subst hv
            have HEin:=Lib.hid hEin
            have hrl:=HRA.out m
            have hrl2:m * x.accept.length≤15 * 256:=Nat.mul_le_mul hm15 hal
            obtain⟨av,cv,hva,_⟩:=HDw.out.a.slice (by omega)
            obtain⟨-,-,d2,-,df⟩:=cell4B HDw.out.e.blk
            have df2:=df 2
            rw[hva] at d2
            have hkl:=HDw.out.e.klt
            have hne:=HDw.out.ane
            have hzB:=HDw.out.sz
            obtain⟨-,s1,s2,-⟩:=cell9T (HBS.out _ _ _ HFw.out)
            have hln2:(repA x s.lo m).length+(endsB x (m+1)).length≤1073741824:=by rw[HLe.out];omega
            have HVa:=Lib.hid hva
            clear df hEin HO HOe hva hrl hrl2 HEB
            by_cases hge:s.lo≤(m:Int)+1
            · have HTa:Hid (repA x s.lo m++endsB x (m+1)=repA x s.lo (m+1)):=by show _=_;rw[HRAS.out,if_pos hge]
              have HAP:Hid (∀ {ops:Array Oper} {rest:List Oper} {o:Oper} {a:Act} {Q:Exit→Act→World→Prop},o.guard=none→(∀ (_:o.op=.call { callee:=.builtin .append,args:=#[.tmp 98,.tmp 99],argTypes:=#[31, 31] }),a.eval (.tmp 98)=.slice av (repA x s.lo m).length cv→a.eval (.tmp 99)=.slice ae2 (endsB x (m+1)).length ce2→(∀ (v':Value) w',inE.Own 3 (qk p k) w' w0.heap.size v' (repA x s.lo m++endsB x (m+1))→wr.grownBy w' va.ownBlock→(v'.ownBlock=va.ownBlock∨∃ g,v'.ownBlock=some g∧wr.heap.size≤g)→wpList Tryz.prog ops Q rest (a.put o.dst v') w')→wpList Tryz.prog ops Q (o::rest) a wr)):=fun hg ho h1 h2 h=>own_rowE (E:=inE) elemIN wr hg (.tmp 98) (.tmp 99) ho (qk p k) w0.heap.size va (by rw[h1,HVa.out]) HDw.out.a ae2 ce2 (HEin.out.keep (hide_mono fun j hj=>hid_true.2 (Or.inl hj))) h2 hln2 hzB h
              go_wp2_with (at_builtin;go_must (refine HAP.out rfl rfl rfl rfl ?_))
              intro v' w' ho hg hat
              obtain⟨av',cv',hv',_⟩:=ho.slice (by rw[List.length_append];exact hln2)
              rw[List.length_append] at hv'
              subst hv'
              have g2:w'.cell? ⟨k,2,none⟩=some (.slice av (repA x s.lo m).length cv):=(hg.cell_far ⟨k,2,none⟩ hkl hne).trans d2
              have gf2:w'.frozen? ⟨k,2,none⟩=false:=(hg.frozen_far ⟨k,2,none⟩ hkl hne).trans df2
              have HD9:=Lib.hid (HDw.out.acc ho hg hat)
              have HF9:=Lib.hid (HFw.out.acc hg hat (.slice av' ((repA x s.lo m).length+(endsB x (m+1)).length) cv') 2)
              have HE9:=Lib.hid (inE_in.1 (HEin.out.keep (HDw.out.accKp hg hat 2 (.slice av' ((repA x s.lo m).length+(endsB x (m+1)).length) cv'))))
              have HD10:Hid (BldS (qk p k) k w0 (w'.setCell ⟨k,2,none⟩ (.slice av' ((repA x s.lo m).length+(endsB x (m+1)).length) cv')) ST (repE x (m+1)) (repA x s.lo (m+1)) ve (.slice av' ((repA x s.lo m).length+(endsB x (m+1)).length) cv')):=by
                show BldS _ _ _ _ _ _ _ _ _
                rw[HR1.out,← HTa.out];exact HD9.out
              clear ho hg hat HD9
              go_wp2_with fail
              go_roundw
              case rel=>exact⟨m+1,ve,_,ae2,ce2,by go_num,rfl,by omega,HD10.out,HF9.out,HE9.out⟩
              case measure=>(simp[intOf];try omega)
            · have HD10:Hid (BldS (qk p k) k w0 wr ST (repE x (m+1)) (repA x s.lo (m+1)) ve va):=by
                show BldS _ _ _ _ _ _ _ _ _
                rw[HR1.out,HRAS.out,if_neg hge,List.append_nil];exact HDw.out
              go_wp2_with fail
              go_roundw
              case rel=>exact⟨m+1,ve,va,ae2,ce2,by go_num,rfl,by omega,HD10.out,HFw.out,inE_in.1 HEin.out⟩
              case measure=>(simp[intOf];try omega)
    · have hltI:¬ (m:Int)+1≤s.hi:=by omega
      obtain rfl:m=s.hi.toNat:=by omega
      clear HEn
      go_wp2_with fail
      first | exact HYel.out _ _ _ HD.out | (refine bodyPost_ret (results_none rfl _ _ _) rfl ?_;exact HYel.out _ _ _ HD.out)
end Go.Proofs.YthojpomoflhbcaaGreatDoor
