/- What the joined texts below want, and the base does not keep. -/
import Derived.Test.YtelhoppfidibiaaGreatDoorJTa01
import Derived.Test.YtelhoppfidibiaaGreatDoorJTa02
import Derived.Test.YtelhoppfidibiaaGreatDoorJTa03
import Derived.Test.YtelhoppfidibiaaGreatDoorJTa04
import Derived.Test.YtelhoppfidibiaaGreatDoorJTa05
import Derived.Test.YtelhoppfidibiaaGreatDoorJTa06
import Derived.Test.YtelhoppfidibiaaGreatDoorJTa07
import Derived.Test.YtelhoppfidibiaaGreatDoorJTa08
import Derived.Test.YtelhoppfidibiaaGreatDoorJTa09
import Derived.Test.YtelhoppfidibiaaGreatDoorJTa10
import Derived.Test.YtelhoppfidibiaaGreatDoorJTa11
import Derived.Test.YtelhoppfidibiaaGreatDoorJTa12
import Derived.Test.YtelhoppfidibiaaGreatDoorJTa13
import Derived.Test.YtelhoppfidibiaaGreatDoorJTa14
import Derived.Test.YtelhoppfidibiaaGreatDoorJTa15
import Derived.Test.YtelhoppfidibiaaGreatDoorJTa16
import Derived.Test.YtelhoppfidibiaaGreatDoorJTa17
import Derived.Test.YtelhoppfidibiaaGreatDoorJTa18
import Derived.Test.YtelhoppfidibiaaGreatDoorJTa19
import Derived.Test.YtelhoppfidibiaaGreatDoorJTa20
import Derived.Test.YtelhoppfidibiaaGreatDoorJTa21
import Derived.Test.YtelhoppfidibiaaGreatDoorJTa22
import Derived.Test.YtelhoppfidibiaaGreatDoorJTa23
import Derived.Test.YtelhoppfidibiaaGreatDoorJTa24
import Derived.Test.YtelhoppfidibiaaGreatDoorJTa25
import Derived.Test.YtelhoppfidibiaaGreatDoorJTa26
import Derived.Test.YtelhoppfidibiaaGreatDoorJTa27
import Derived.Test.YtelhoppfidibiaaGreatDoorJTa28
import Derived.Test.YtelhoppfidibiaaGreatDoorJTa29
import Derived.Test.YtelhoppfidibiaaGreatDoorJTa30
import Derived.Test.YtelhoppfidibiaaGreatDoorJTa31
import Derived.Test.YtelhoppfidibiaaGreatDoorJTa32
import Derived.Test.YtelhoppfidibiaaGreatDoorJTa33
import Derived.Test.YtelhoppfidibiaaGreatDoorJTa34
import Derived.Test.YtelhoppfidibiaaGreatDoorJTa35
import Derived.Test.YtelhoppfidibiaaGreatDoorJTa36
import Derived.Test.YtelhoppfidibiaaGreatDoorJTa37
import Derived.Test.YtelhoppfidibiaaGreatDoorJTa38
import Derived.Test.YtelhoppfidibiaaGreatDoorJTa39
import Derived.Test.YtelhoppfidibiaaGreatDoorJTa40
import Derived.Test.YtelhoppfidibiaaGreatDoorJTa41
import Derived.Test.YtelhoppfidibiaaGreatDoorJTa42
import Derived.Test.YtelhoppfidibiaaGreatDoorJTa43
set_option linter.unusedSimpArgs false
set_option linter.unusedVariables false
set_option maxRecDepth 100000
namespace Go.Proofs.YtelhoppfidibiaaGreatDoor
open Go.RowKit
theorem undU8s':Tryz.prog.underlying 107=some (.slice 5):=by kernel_rfl
theorem byte_any (n:Int) (w:World):Calls Tryz.prog 122 #[.int .i64 n] w fun e w'=>e=.returned (.string (byteS n))∧Ext w w':=by
 have hconv:=run_convert_bytes_arg (P:=Tryz.prog) (w.alloc (.cells #[.int .u8 (n%256)] 5)) 107 5 undU8s' (by kernel_rfl) w.heap.size 0 1 1 [n%256] rfl (fun i hi=>by
  obtain rfl:i=0:=by omega
  simp[go_sem]) 9 (by kernel_rfl)
 go_enter Tryz.func122,Tryz.ntmps122
 go_wp2
 go_ret
 exact⟨rfl,(Ext.refl w).alloc_ _⟩
theorem below_any:∀ (f:Nat) (n:Int),f≤20→n≤0→-9223372036854775808≤n→-(10^(f+1):Int)<n→∀ w:World,Calls Tryz.prog 121 #[.int .i64 n] w fun e w'=>e=.returned (.string (belowS f n))∧Ext w w'
 | f,n,hf,h0,h1,h2,w=>by
  by_cases hq:-10<n
  ·have e:belowS f n=byteS (48-n):=by cases f<;>simp[belowS,hq]
   have e1:IntKind.i64.wrap (48-n)=48-n:=IntWalk.i64_in _ (by omega)
   rw[e]
   clear h2
   go_enter Tryz.func121,Tryz.ntmps121
   go_wp2_with (go_at_call 122;refine (byte_any _ _).mono ?_;rintro e w1 ⟨rfl,hq1⟩;have HX1:=Lib.hid hq1;clear hq1)
   go_ret
   exact⟨rfl,HX1.out⟩
  ·obtain⟨f,rfl⟩:∃ f',f=f'+1:=by
    cases f with
    | zero=>exact absurd h2 (by simp;omega)
    | succ f=>exact⟨f,rfl⟩
   have e:belowS (f+1) n=belowS f (n.tdiv 10)++byteS (48-n.tmod 10):=by simp[belowS,hq]
   have hd:=tdiv10 n h0
   have hm:n.tmod 10=n-10*n.tdiv 10:=Int.tmod_def n 10
   have hp:(10:Int)^(f+1+1)=10*10^(f+1):=by rw[Int.pow_succ];omega
   rw[hp] at h2
   have hz:=belowS_size f (n.tdiv 10)
   have hz1:=byteS_size (48-n.tmod 10)
   have ih:=below_any f (n.tdiv 10) (by omega) (by omega) (by omega) (by rw[hd];omega)
   rw[e]
   have e1:IntKind.i64.wrap (48-n.tmod 10)=48-n.tmod 10:=IntWalk.i64_in _ (by omega)
   have e2:IntKind.i64.wrap (n.tdiv 10)=n.tdiv 10:=IntWalk.i64_in _ (by omega)
   have e3:IntKind.i64.wrap (n.tmod 10)=n.tmod 10:=IntWalk.i64_in _ (by omega)
   have IH:=Lib.hid ih
   clear hd hm hp h2 ih e
   go_enter Tryz.func121,Tryz.ntmps121
   go_wp2_with (first
    | (go_at_call 121;refine (IH.out _).mono ?_;rintro e w1 ⟨rfl,hq1⟩;have HX1:=Lib.hid hq1;clear hq1)
    | (go_at_call 122;refine (byte_any _ _).mono ?_;rintro e w2 ⟨rfl,hq1⟩;have HX2:=Lib.hid hq1;clear hq1))
   go_ret
   exact⟨rfl,HX1.out.trans_ HX2.out⟩
theorem objAt_nonneg (l:List Ob) (p:Int):decide (0≤objAt l p)=inSt (l.map fun o=>(o.a:Int)) p:=by
 unfold objAt inSt
 induction l with
 | nil=>simp
 | cons y l ih =>
  rw[List.findIdx?_cons]
  by_cases h:((y.a:Int)==p)=true
  ·have:p=(y.a:Int):=by simpa using (beq_iff_eq.1 h).symm
   subst this
   simp
  ·rw[if_neg h]
   have h':¬p=(y.a:Int):=fun e=>h (by simp[e])
   simp only[List.map_cons,List.contains_cons]
   rw[show (p==(y.a:Int))=false by simpa using h',Bool.false_or,←ih]
   cases l.findIdx? fun o=>(o.a:Int)==p with
   | none=>rfl
   | some i=>simp;omega
theorem numW_intW (n:Int) (h:smallB n=true):numW (intW n)=n:=by
 simp only[smallB,Bool.and_eq_true,decide_eq_true_eq] at h;unfold numW intW;split<;>omega
section
variable {I:Ideal} {M:Mem} {D:Nat→Prop} {f:Nat→Nat} {nx:Int}
theorem u64_i64 (v:Int) (h:-9223372036854775808≤v∧v≤9223372036854775807):wrap64 (IntKind.u64.wrap v)=v:=by
 rw[IntKind.wrap_u64];unfold wrap64;omega
end
theorem infoCell:(Tryz.prog.info? 52).map (fun i=>(i.zero,i.size,i.bytes))=some (some (.agg #[.int .i64 0,.int .i64 0,.pointer none]),3,24):=by kernel_rfl
theorem undCells:Tryz.prog.underlying 53=some (.slice 52):=by kernel_rfl
theorem made_at (z:Array Value) (n j:Nat) (h:j<n):(madeCells z n)[j]?=some (z[j%z.size]!):=by
 simp[madeCells,h]
theorem HStep.out {w w':World} {hb b:Nat} {S S':Sls} {g:Nat} (h:HStep hb b w S w' S') (hg:¬HL hb b S g) (hl:g<w.heap.size):¬HL hb b S' g:=fun q=>by
 rcases h.own g q with r|r
 ·exact hg r
 ·omega
theorem MapI.alloc {w:World} {b:Nat} {q:IntKind} {es:List (Int × Value)} (h:MapI w b q es) (o:Obj):MapI (w.alloc o) b q es:=h.ext ((Ext.refl w).alloc_ o)
end Go.Proofs.YtelhoppfidibiaaGreatDoor
