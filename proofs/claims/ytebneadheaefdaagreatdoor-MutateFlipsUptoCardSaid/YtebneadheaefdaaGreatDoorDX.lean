/- law32: what Reset, Settle, Step and Run answer, read in one way. -/
import Derived.Test.YtebneadheaefdaaGreatDoorDC
import Derived.Test.YtebneadheaefdaaGreatDoorDU
set_option linter.unusedSimpArgs false
set_option linter.unusedVariables false
set_option linter.unnecessarySimpa false
namespace Go.Proofs.YtebneadheaefdaaGreatDoor
open Go.RowKit
theorem ints_nil (w:World):IntsIn w [] none 0:=⟨by simp,by simp,Or.inl rfl⟩
theorem sigs_nil (w:World):SigsIn w [] none 0:=⟨by simp,by simp,Or.inl rfl⟩
theorem strs_nil (w:World):StrsIn w [] none 0:=⟨by simp,by simp,Or.inl rfl⟩
theorem rowsd_nil (w:World):RowsD w [] none 0:=⟨by simp,by simp,Or.inl rfl⟩
noncomputable def resetL (d:DesD):List Int:=if d.err=0 then d.inits else []
theorem ResetPost.out {d:DesD} {w0 w':World} {e:Ending} (h:ResetPost w0 d e w'):∃ a cap,e=.returned (.tuple #[.slice a (resetL d).length cap,.int .i64 d.err])∧IntsIn w' (resetL d) a cap∧Below w0.heap.size w0 w':=by
 obtain⟨⟨h0,a,cap,h1,h2⟩ | ⟨h0,h1⟩,h3⟩:=h
 ·have hr:resetL d=d.inits:=if_pos h0
  rw[hr,h0]
  exact⟨a,cap,h1,h2,h3⟩
 ·have hr:resetL d=[]:=if_neg h0
  rw[hr]
  exact⟨none,0,h1,ints_nil w',h3⟩
noncomputable def sErr (d:DesD) (l:List Int):Int:=if d.err=0 then (if d.stateB l=true then 0 else 1) else d.err
noncomputable def sSig (d:DesD) (l:List Int) (inp:Sigs):Sigs:=if sErr d l=0 then settleS d l inp else []
noncomputable def sNext (d:DesD) (l:List Int) (inp:Sigs):List Int:=if sErr d l=0 then nextS d (settleS d l inp) else []
theorem sErr_zero {d:DesD} {l:List Int}:sErr d l=0↔d.err=0∧d.stateB l=true:=by
 unfold sErr
 by_cases h:d.err=0
 ·rw[if_pos h]
  by_cases h2:d.stateB l=true
  ·rw[if_pos h2];simp[h,h2]
  ·rw[if_neg h2];simp[h2]
 ·rw[if_neg h];simp[h]
theorem SettlePost.out {d:DesD} {l:List Int} {inp:Sigs} {w0 w':World} {e:Ending} (h:SettlePost w0 d l inp e w'):∃ a cap,e=.returned (.tuple #[.slice a (sSig d l inp).length cap,.int .i64 (sErr d l)])∧SigsIn w' (sSig d l inp) a cap∧Below w0.heap.size w0 w':=by
 obtain⟨⟨h0,hb,a,cap,h1,h2⟩ | ⟨h0,h1⟩ | ⟨h0,hb,h1⟩,h3⟩:=h
 ·have he:sErr d l=0:=sErr_zero.2 ⟨h0,hb⟩
  have hr:sSig d l inp=settleS d l inp:=if_pos he
  rw[hr,he]
  exact⟨a,cap,h1,h2,h3⟩
 ·have he:sErr d l=d.err:=if_neg h0
  have hr:sSig d l inp=[]:=if_neg (by rw[he];exact h0)
  rw[hr,he]
  exact⟨none,0,h1,sigs_nil w',h3⟩
 ·have he:sErr d l=1:=by unfold sErr;rw[if_pos h0,if_neg (by rw[hb];simp)]
  have hr:sSig d l inp=[]:=if_neg (by rw[he];decide)
  rw[hr,he]
  exact⟨none,0,h1,sigs_nil w',h3⟩
theorem StepPost.out {d:DesD} {l:List Int} {inp:Sigs} {w0 w':World} {e:Ending} (h:StepPost w0 d l inp e w'):∃ a1 c1 a2 c2,e=.returned (.tuple #[.slice a1 (sNext d l inp).length c1,.slice a2 (sSig d l inp).length c2,.int .i64 (sErr d l)])∧IntsIn w' (sNext d l inp) a1 c1∧SigsIn w' (sSig d l inp) a2 c2∧Below w0.heap.size w0 w':=by
 obtain⟨⟨h0,hb,a1,c1,a2,c2,h1,h2,h4⟩ | ⟨h0,h1⟩ | ⟨h0,hb,h1⟩,h3⟩:=h
 ·have he:sErr d l=0:=sErr_zero.2 ⟨h0,hb⟩
  have hr:sSig d l inp=settleS d l inp:=if_pos he
  have hn:sNext d l inp=nextS d (settleS d l inp):=if_pos he
  rw[hr,hn,he]
  exact⟨a1,c1,a2,c2,h1,h2,h4,h3⟩
 ·have he:sErr d l=d.err:=if_neg h0
  have hr:sSig d l inp=[]:=if_neg (by rw[he];exact h0)
  have hn:sNext d l inp=[]:=if_neg (by rw[he];exact h0)
  rw[hr,hn,he]
  exact⟨none,0,none,0,h1,ints_nil w',sigs_nil w',h3⟩
 ·have he:sErr d l=1:=by unfold sErr;rw[if_pos h0,if_neg (by rw[hb];simp)]
  have hr:sSig d l inp=[]:=if_neg (by rw[he];decide)
  have hn:sNext d l inp=[]:=if_neg (by rw[he];decide)
  rw[hr,hn,he]
  exact⟨none,0,none,0,h1,ints_nil w',sigs_nil w',h3⟩
noncomputable def rErr (d:DesD) (n:Nat):Int:=if d.err=0 then (if n≤4096 then 0 else 2) else d.err
noncomputable def rNames (d:DesD) (n:Nat):List ByteArray:=if rErr d n=0 then d.names else []
noncomputable def rRows (d:DesD) (rows:List Sigs):List (List Int):=if rErr d rows.length=0 then rowsN d rows else []
theorem rErr_zero {d:DesD} {n:Nat}:rErr d n=0↔d.err=0∧n≤4096:=by
 unfold rErr
 by_cases h:d.err=0
 ·rw[if_pos h]
  by_cases h2:n≤4096
  ·rw[if_pos h2];simp[h,h2]
  ·rw[if_neg h2];simp[h2]
 ·rw[if_neg h];simp[h]
theorem rowsN_len (d:DesD) (rows:List Sigs):(rowsN d rows).length=rows.length:=by simp[rowsN]
theorem RunPost.out {d:DesD} {rows:List Sigs} {w0 w':World} {e:Ending} (h:RunPost w0 d rows e w'):∃ aN cN aR cR,e=.returned (.tuple #[.agg #[.slice aN (rNames d rows.length).length cN,.slice aR (rRows d rows).length cR],.int .i64 (rErr d rows.length)])∧StrsIn w' (rNames d rows.length) aN cN∧RowsD w' (rRows d rows) aR cR∧Below w0.heap.size w0 w':=by
 obtain⟨⟨h0,hb,aN,cN,aR,cR,h1,h2,h4⟩ | ⟨h0,h1⟩ | ⟨h0,hb,h1⟩,h3⟩:=h
 ·have he:rErr d rows.length=0:=rErr_zero.2 ⟨h0,hb⟩
  have hr:rNames d rows.length=d.names:=if_pos he
  have hn:rRows d rows=rowsN d rows:=if_pos he
  rw[hr,hn,he,rowsN_len]
  exact⟨aN,cN,aR,cR,h1,h2,h4,h3⟩
 ·have he:rErr d rows.length=d.err:=if_neg h0
  have hr:rNames d rows.length=[]:=if_neg (by rw[he];exact h0)
  have hn:rRows d rows=[]:=if_neg (by rw[he];exact h0)
  rw[hr,hn,he]
  exact⟨none,0,none,0,h1,strs_nil w',rowsd_nil w',h3⟩
 ·have he:rErr d rows.length=2:=by unfold rErr;rw[if_pos h0,if_neg (by omega)]
  have hr:rNames d rows.length=[]:=if_neg (by rw[he];decide)
  have hn:rRows d rows=[]:=if_neg (by rw[he];decide)
  rw[hr,hn,he]
  exact⟨none,0,none,0,h1,strs_nil w',rowsd_nil w',h3⟩
end Go.Proofs.YtebneadheaefdaaGreatDoor
