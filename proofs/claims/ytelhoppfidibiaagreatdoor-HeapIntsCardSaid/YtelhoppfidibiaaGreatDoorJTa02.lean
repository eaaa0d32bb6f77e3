/- The walks of package word: constants and headers. -/
import Derived.Test.YtelhoppfidibiaaGreatDoorJTa01
set_option linter.unusedSimpArgs false
set_option linter.unusedVariables false
set_option maxHeartbeats 1000000
namespace Go.Proofs.YtelhoppfidibiaaGreatDoor
open Go.RowKit
theorem ofConst_yes (a:Int) (h:0≤a∧a≤2) (w:World) :
  Calls Tryz.prog 67 #[.int .i64 a] w fun e w'=>e=.returned (.tuple #[.int .u64 (constW a),.nilIface])∧w'=w:=by
 obtain⟨h1,h2⟩:=h
 go_enter Tryz.func67,Tryz.ntmps67
 go_wp2_with (first
  | (go_at_call 39;refine (const_any _ _).mono ?_;rintro e w' ⟨rfl,rfl⟩))
 go_ret2
 exact⟨rfl,rfl⟩
theorem ofConst_no (a:Int) (h:¬(0≤a∧a≤2)) (w:World) (s:Addr) (hs:GBound w s) :
  Calls Tryz.prog 67 #[.int .i64 a] w fun e w'=>e=.returned (.tuple #[.int .u64 0,errV s])∧Ext w w':=by
 by_cases h1:a<0
 ·clear h
  go_enter Tryz.func67,Tryz.ntmps67
  go_wp2
  go_quiet (fail)
  go_wp2
  go_ret2
  exact⟨rfl,ext_drewN _ _⟩
 ·have h2:2<a:=by omega
  clear h
  go_enter Tryz.func67,Tryz.ntmps67
  go_wp2
  go_quiet (fail)
  go_wp2
  go_ret2
  exact⟨rfl,ext_drewN _ _⟩
theorem ofHead_yes (k a m s:Int) (hk:inB k 255=true) (ha:inB a 15=true) (hm:inB m 1=true) (hs:inB s 4096=true) (w:World) :
  Calls Tryz.prog 115 #[.agg #[.int .i64 k,.int .i64 a,.int .i64 m,.int .i64 s]] w fun e w'=>e=.returned (.tuple #[.int .u64 (headW k a m s),.nilIface])∧Ext w w':=by
 go_enter Tryz.func115,Tryz.ntmps115
 go_wp2_with (first
  | (go_at_call 148;refine (in_any _ _ _).mono ?_;rintro e w' ⟨rfl,rfl⟩)
  | (go_at_call 88;refine (headWord_any k a m s (inB_true.1 hk) (inB_true.1 ha) (inB_true.1 hm) (inB_true.1 hs) _).mono ?_;rintro e w' ⟨rfl,hb⟩))
 go_ret2
 exact⟨rfl,((Ext.refl _).alloc_ _).trans_ hb⟩
theorem ofHead_no (k a m s:Int) (h:(inB k 255&&inB a 15&&inB m 1&&inB s 4096)=false) (w:World) (b:Addr) (hb:GBound w b) :
  Calls Tryz.prog 115 #[.agg #[.int .i64 k,.int .i64 a,.int .i64 m,.int .i64 s]] w fun e w'=>e=.returned (.tuple #[.int .u64 0,errV b])∧Ext w w':=by
 have hlt:=cell_lt hb
 simp only at hlt
 have h5:inB k 255=false∨(inB k 255=true∧inB a 15=false)∨(inB k 255=true∧inB a 15=true∧inB m 1=false)∨(inB k 255=true∧inB a 15=true∧inB m 1=true∧inB s 4096=false):=by
  revert h;cases inB k 255<;>cases inB a 15<;>cases inB m 1<;>cases inB s 4096<;>simp
 clear h
 rcases h5 with h1|⟨h1,h2⟩|⟨h1,h2,h3⟩|⟨h1,h2,h3,h4⟩
 all_goals
  go_enter Tryz.func115,Tryz.ntmps115
  go_wp2_with (go_at_call 148;refine (in_any _ _ _).mono ?_;rintro e w' ⟨rfl,rfl⟩)
  go_quiet (fail)
  go_wp2
  go_ret2
  exact⟨rfl,((Ext.refl _).alloc_ _).drewN_ _⟩
end Go.Proofs.YtelhoppfidibiaaGreatDoor
