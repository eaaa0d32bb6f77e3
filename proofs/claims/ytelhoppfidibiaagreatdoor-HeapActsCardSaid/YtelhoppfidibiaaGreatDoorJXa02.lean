/- The walks of package word: constants and headers. -/
import Derived.Test.YtelhoppfidibiaaGreatDoorJXa01
set_option linter.unusedSimpArgs false
set_option linter.unusedVariables false
set_option maxHeartbeats 1000000
namespace Go.Proofs.YtelhoppfidibiaaGreatDoor
open Go.RowKit
theorem E8x (a:Int) (h:0≤a∧a≤2) (w:World) :
  Calls Tryz.prog 67 #[.int .i64 a] w fun e w'=>e=.returned (.tuple #[.int .u64 (P3 a),.nilIface])∧w'=w:=by
 obtain⟨h1,h2⟩:=h
 go_enter Tryz.func67,Tryz.ntmps67
 go_wp2_with (first
  | (go_at_call 39;refine (B3n _ _).mono ?_;rintro e w' ⟨rfl,rfl⟩))
 go_ret2
 exact⟨rfl,rfl⟩
theorem E8w (a:Int) (h:¬(0≤a∧a≤2)) (w:World) (s:Addr) (hs:A1o w s) :
  Calls Tryz.prog 67 #[.int .i64 a] w fun e w'=>e=.returned (.tuple #[.int .u64 0,E0 s])∧A0 w w':=by
 by_cases h1:a<0
 ·clear h
  go_enter Tryz.func67,Tryz.ntmps67
  go_wp2
  go_quiet (fail)
  go_wp2
  go_ret2
  exact⟨rfl,Y0 _ _⟩
 ·have h2:2<a:=by omega
  clear h
  go_enter Tryz.func67,Tryz.ntmps67
  go_wp2
  go_quiet (fail)
  go_wp2
  go_ret2
  exact⟨rfl,Y0 _ _⟩
theorem C9z (k a m s:Int) (hk:R1 k 255=true) (ha:R1 a 15=true) (hm:R1 m 1=true) (hs:R1 s 4096=true) (w:World) :
  Calls Tryz.prog 115 #[.agg #[.int .i64 k,.int .i64 a,.int .i64 m,.int .i64 s]] w fun e w'=>e=.returned (.tuple #[.int .u64 (J7 k a m s),.nilIface])∧A0 w w':=by
 go_enter Tryz.func115,Tryz.ntmps115
 go_wp2_with (first
  | (go_at_call 148;refine (C6t _ _ _).mono ?_;rintro e w' ⟨rfl,rfl⟩)
  | (go_at_call 88;refine (B1u k a m s (A4u.1 hk) (A4u.1 ha) (A4u.1 hm) (A4u.1 hs) _).mono ?_;rintro e w' ⟨rfl,hb⟩))
 go_ret2
 exact⟨rfl,((A0.refl _).alloc_ _).trans_ hb⟩
theorem E8y (k a m s:Int) (h:(R1 k 255&&R1 a 15&&R1 m 1&&R1 s 4096)=false) (w:World) (b:Addr) (hb:A1o w b) :
  Calls Tryz.prog 115 #[.agg #[.int .i64 k,.int .i64 a,.int .i64 m,.int .i64 s]] w fun e w'=>e=.returned (.tuple #[.int .u64 0,E0 b])∧A0 w w':=by
 have hlt:=B9 hb;simp only at hlt;have h5:R1 k 255=false∨(R1 k 255=true∧R1 a 15=false)∨(R1 k 255=true∧R1 a 15=true∧R1 m 1=false)∨(R1 k 255=true∧R1 a 15=true∧R1 m 1=true∧R1 s 4096=false):=by
  revert h;cases R1 k 255<;>cases R1 a 15<;>cases R1 m 1<;>cases R1 s 4096<;>simp
 clear h;rcases h5 with h1|⟨h1,h2⟩|⟨h1,h2,h3⟩|⟨h1,h2,h3,h4⟩
 all_goals
  go_enter Tryz.func115,Tryz.ntmps115
  go_wp2_with (go_at_call 148;refine (C6t _ _ _).mono ?_;rintro e w' ⟨rfl,rfl⟩)
  go_quiet (fail)
  go_wp2
  go_ret2
  exact⟨rfl,((A0.refl _).alloc_ _).drewN_ _⟩
end Go.Proofs.YtelhoppfidibiaaGreatDoor
