/- The walks of the nursery's collector's follow. -/
import Derived.Test.YtelhoppfidibiaaGreatDoorJXa10
set_option linter.unusedSimpArgs false
set_option linter.unusedVariables false
set_option maxHeartbeats 8000000
set_option maxRecDepth 100000
namespace Go.Proofs.YtelhoppfidibiaaGreatDoor
open Go.RowKit
open Calls renaming quiet_of_same→Za
open Go.Proofs.Tryz renaming prog→Zb
def B9j (w:World) (B b:Nat) (S:C8) (X:Pl) (r:Int × D9) (e:Ending) (w':World):Prop:=e=.returned (.int .u64 r.1)∧A3e w B b S X r.2 w'
theorem E6u (B b:Nat) (C:D9) (S:C8) (X:Pl) (j:Nat) (w:World) (hO:G7 w B b C S X) (hc:A7n C j) :
  Calls Zb 144 #[.pointer (some ⟨X.c,0,none⟩),.int .i64 (j:Int)] w fun e w'=>e=.returned (.int .i64 (U4 C j))∧A3e w B b S X (L6 C j) w':=by
 by_cases h:C.ten≤F4 (A6 C.M.W j)
 ·exact E6x B b C S X j w hO hc h
 ·exact E6w B b C S X j w hO hc h
theorem C3m (w:World):(zeroValue 3).run Zb w=.ok (.int .i64 0) w:=by kernel_rfl
theorem E0s (B b:Nat) (C:D9) (S:C8) (X:Pl) (a:Int) (h0:0≤a) (h1:a≤18446744073709551615) (w:World) (hO:G7 w B b C S X) (hok:C.M.Ok) (hs:G2 C.M) (hst:stays C.M a=true) :
  Calls Zb 91 #[.pointer (some ⟨X.c,0,none⟩),.int .u64 a] w (fun e w'=>e=.returned (.int .u64 a)∧A0 w w'):=by
 have hM:=hO.mem.mem hok;have f0:=hO.f0;have HM:=Hz hM;have HS:=Hz hs;by_cases hk:C7 a=0
 ·have k1:(C7 a != 0)=false:=by simpa using hk
  by_cases hz:a=0
  ·have k2:(a==0)=true:=by simpa using hz
   clear hk hz hM hs hO hst
   go_enter Tryz.func91,Tryz.ntmps91
   go_wp2
   go_quiet (first
    | (go_at_call 103;exact Za (O8 _ h0 h1 _))
    | (go_at_call 104;exact Za (A0h _ h0 h1 _))
    | (go_at_call 101;exact Za (A1u _ _ b 0 C.M S (HM.out.ext (Y0 _ _)) HS.out)))
   go_wp2;go_ret;exact⟨rfl,A0.drewN_ (A0.refl _) _⟩
  ·have k2:(a==0)=false:=by simpa using hz
   have k3:L4 C.M (C9 a)=true:=by
    unfold stays J5 at hst;simpa [hk,hz] using hst
   clear hk hz hM hs hO hst
   go_enter Tryz.func91,Tryz.ntmps91
   go_wp2
   go_quiet (first
    | (go_at_call 103;exact Za (O8 _ h0 h1 _))
    | (go_at_call 104;exact Za (A0h _ h0 h1 _))
    | (go_at_call 101;exact Za (A1u _ _ b 0 C.M S (HM.out.ext (Y0 _ _)) HS.out)))
   go_wp2;go_ret;exact⟨rfl,A0.drewN_ (A0.refl _) _⟩
 ·have k1:(C7 a != 0)=true:=by simpa using hk
  clear hk hM hs hO hst
  go_enter Tryz.func91,Tryz.ntmps91
  go_wp2
  go_quiet (first
   | (go_at_call 103;exact Za (O8 _ h0 h1 _))
   | (go_at_call 104;exact Za (A0h _ h0 h1 _))
   | (go_at_call 101;exact Za (A1u _ _ b 0 C.M S (HM.out.ext (Y0 _ _)) HS.out)))
  go_wp2;go_ret;exact⟨rfl,A0.drewN_ (A0.refl _) _⟩
theorem C3l {M:A7} {a:Int} (h:stays M a=false):(C7 a != 0)=false∧(a==0)=false∧L4 M (C9 a)=false:=by
 unfold stays J5 at h;simp at h;exact⟨by simpa using h.1.1,by simpa using h.1.2,h.2⟩
theorem C1i {w:World} {B b:Nat} {C:D9} {S:C8} {X:Pl} (hO:G7 w B b C S X) (k:Int) :
  (Instr.lookup 103 (.map (some X.mb)) (.int .i64 k) true).run Zb w=.ok (.tuple #[.int .i64 ((K0 C.mv k).getD 0),.bool (K0 C.mv k).isSome]) w:=by
 rw[B4w B1b A8r (C3m w) hO.map k true,C1p]
 cases K0 C.mv k<;>rfl
theorem E0q (B b:Nat) (C:D9) (S:C8) (X:Pl) (a:Int) (h0:0≤a) (h1:a≤18446744073709551615) (w:World) (hO:G7 w B b C S X) (hok:C.M.Ok) (hs:G2 C.M) (hst:stays C.M a=false) (to:Int) (hl:K0 C.mv (C9 a)=some to) :
  Calls Zb 91 #[.pointer (some ⟨X.c,0,none⟩),.int .u64 a] w (fun e w'=>e=.returned (.int .u64 (D3 to))∧A0 w w'):=by
 have hM:=hO.mem.mem hok;have f0:=hO.f0;have f4:=hO.f4;have HM:=Hz hM;have HS:=Hz hs;obtain⟨k1,k2,k3⟩:=C3l hst;have hlk:∀ n,(Instr.lookup 103 (.map (some X.mb)) (.int .i64 (C9 a)) true).run Zb (w.drewN n)=.ok (.tuple #[.int .i64 to,.bool true]) (w.drewN n):=fun n=>by
  rw[C1i (hO.ext (Y0 _ n)),hl];rfl
 clear hM hs hO hst hl
 go_enter Tryz.func91,Tryz.ntmps91
 go_wp2
 go_quiet (first
  | (go_at_call 103;exact Za (O8 _ h0 h1 _))
  | (go_at_call 104;exact Za (A0h _ h0 h1 _))
  | (go_at_call 101;exact Za (A1u _ _ b 0 C.M S (HM.out.ext (Y0 _ _)) HS.out)))
 go_wp2_with (first
  | (go_at_call 104;refine (A0h _ h0 h1 _).mono ?_;rintro e w' ⟨rfl,rfl⟩)
  | (go_at_call 43;refine (B0g _ _).mono ?_;rintro e w' ⟨rfl,rfl⟩))
 go_ret;exact⟨rfl,A0.drewN_ (A0.refl _) _⟩
theorem E0r (B b:Nat) (C:D9) (S:C8) (X:Pl) (a:Int) (h0:0≤a) (h1:a≤18446744073709551615) (w:World) (hO:G7 w B b C S X) (hst:stays C.M a=false) (hl:K0 C.mv (C9 a)=none) (j:Nat) (hj:C9 a=(j:Int)) (hc:A7n C j) :
  Calls Zb 91 #[.pointer (some ⟨X.c,0,none⟩),.int .u64 a] w (fun e w'=>e=.returned (.int .u64 (D3 (U4 C j)))∧A3e w B b S X (L6 C j) w'):=by
 have hM:=hO.mem.mem hc.ok;have f0:=hO.f0;have f4:=hO.f4;have HM:=Hz hM;have HS:=Hz hc.shp;have HC:=Hz hc;have HO:=Hz hO;obtain⟨k1,k2,k3⟩:=C3l hst;have hlk:∀ n,(Instr.lookup 103 (.map (some X.mb)) (.int .i64 (C9 a)) true).run Zb (w.drewN n)=.ok (.tuple #[.int .i64 0,.bool false]) (w.drewN n):=fun n=>by
  rw[C1i (hO.ext (Y0 _ n)),hl];rfl
 have HJ:=Hz hj;clear hM hO hst hl hc hj
 go_enter Tryz.func91,Tryz.ntmps91
 go_wp2
 go_quiet (first
  | (go_at_call 103;exact Za (O8 _ h0 h1 _))
  | (go_at_call 104;exact Za (A0h _ h0 h1 _))
  | (go_at_call 101;exact Za (A1u _ _ b 0 C.M S (HM.out.ext (Y0 _ _)) HS.out)))
 go_wp2_with (first
  | (go_at_call 104;refine (A0h _ h0 h1 _).mono ?_;rintro e w' ⟨rfl,rfl⟩)
  | (go_at_call 43;refine (B0g _ _).mono ?_;rintro e w' ⟨rfl,rfl⟩)
  | (go_at_call 144;rw[HJ.out];refine (E6u B b C S X j _ (HO.out.ext (Y0 _ _)) HC.out).mono ?_;rintro e w9 ⟨rfl,hq⟩;have HQ:=Hz hq;clear hq))
 go_ret;refine⟨rfl,?_⟩;obtain⟨X',x1,x2,x3,x4,x5⟩:=HQ.out;exact⟨X',x1,x2,x3,(A8.of_ext (Y0 _ _)).trans x4,x5⟩
theorem C5g {w w':World} {B b:Nat} {S:C8} {X:Pl} {C:D9} (h:G7 w B b C S X) (hx:A0 w w'):A3e w B b S X C w':=⟨X,rfl,rfl,h.ext hx,A8.of_ext hx,fun k hk=>Or.inl hk⟩
theorem F6f {w w1 w2:World} {B b:Nat} {S:C8} {X X1:Pl} {C2:D9} (x1:X1.c=X.c) (x2:X1.mb=X.mb) (k1:A8 (Z3 b S X) w w1) (l1:∀ k,Z3 b S X1 k→Z3 b S X k∨w.heap.size≤k) (h:A3e w1 B b S X1 C2 w2):A3e w B b S X C2 w2:=by
 obtain⟨X2,y1,y2,y3,y4,y5⟩:=h;refine⟨X2,y1.trans x1,y2.trans x2,y3,k1.then_ y4 fun i hi hk=>?_,fun k hk=>?_⟩
 ·rcases l1 i hk with q|q
  ·exact q
  ·omega
 ·rcases y5 k hk with q|q
  ·exact l1 k q
  ·exact Or.inr (Nat.le_trans k1.size q)
def A7m (C:D9) (a:Int):Prop:=stays C.M a=false→K0 C.mv (C9 a)=none→0≤C9 a∧A7n C (C9 a).toNat
theorem E0p (B b:Nat) (C:D9) (S:C8) (X:Pl) (a:Int) (h0:0≤a) (h1:a≤18446744073709551615) (w:World) (hO:G7 w B b C S X) (hok:C.M.Ok) (hs:G2 C.M) (hc:A7m C a) :
  Calls Zb 91 #[.pointer (some ⟨X.c,0,none⟩),.int .u64 a] w (B9j w B b S X (F9 C a)):=by
 unfold B9j F9
 cases hst:stays C.M a with
 | true =>
  simp only[if_true];exact (E0s B b C S X a h0 h1 w hO hok hs hst).mono fun e w' ⟨he,hq⟩=>⟨he,C5g hO hq⟩
 | false =>
  simp only[Bool.false_eq_true,if_false]
  cases hl:K0 C.mv (C9 a) with
  | some to=>exact (E0q B b C S X a h0 h1 w hO hok hs hst to hl).mono fun e w' ⟨he,hq⟩=>⟨he,C5g hO hq⟩
  | none =>
   obtain⟨j0,j1⟩:=hc hst hl;exact E0r B b C S X a h0 h1 w hO hst hl (C9 a).toNat (by omega) j1
theorem E4u (B b:Nat) (C:D9) (S:C8) (X:Pl) (a:Int) (h0:0≤a) (h1:a≤18446744073709551615) (w:World) (hO:G7 w B b C S X) (hok:C.M.Ok) (hs:G2 C.M) (hst:stays C.M a=true) :
  Calls Zb 95 #[.pointer (some ⟨X.c,0,none⟩),.int .u64 a] w (fun e w'=>e=.returned (.tuple #[.int .u64 a,.bool true])∧A0 w w'):=by
 have hM:=hO.mem.mem hok;have f0:=hO.f0;have HM:=Hz hM;have HS:=Hz hs;by_cases hk:C7 a=0
 ·have k1:(C7 a != 0)=false:=by simpa using hk
  by_cases hz:a=0
  ·have k2:(a==0)=true:=by simpa using hz
   clear hk hz hM hs hO hst
   go_enter Tryz.func95,Tryz.ntmps95
   go_wp2
   go_quiet (first
    | (go_at_call 103;exact Za (O8 _ h0 h1 _))
    | (go_at_call 104;exact Za (A0h _ h0 h1 _))
    | (go_at_call 101;exact Za (A1u _ _ b 0 C.M S (HM.out.ext (Y0 _ _)) HS.out)))
   go_wp2
   go_ret2
   exact⟨rfl,A0.drewN_ (A0.refl _) _⟩
  ·have k2:(a==0)=false:=by simpa using hz
   have k3:L4 C.M (C9 a)=true:=by
    unfold stays J5 at hst;simpa [hk,hz] using hst
   clear hk hz hM hs hO hst
   go_enter Tryz.func95,Tryz.ntmps95
   go_wp2
   go_quiet (first
    | (go_at_call 103;exact Za (O8 _ h0 h1 _))
    | (go_at_call 104;exact Za (A0h _ h0 h1 _))
    | (go_at_call 101;exact Za (A1u _ _ b 0 C.M S (HM.out.ext (Y0 _ _)) HS.out)))
   go_wp2
   go_ret2
   exact⟨rfl,A0.drewN_ (A0.refl _) _⟩
 ·have k1:(C7 a != 0)=true:=by simpa using hk
  clear hk hM hs hO hst
  go_enter Tryz.func95,Tryz.ntmps95
  go_wp2
  go_quiet (first
   | (go_at_call 103;exact Za (O8 _ h0 h1 _))
   | (go_at_call 104;exact Za (A0h _ h0 h1 _))
   | (go_at_call 101;exact Za (A1u _ _ b 0 C.M S (HM.out.ext (Y0 _ _)) HS.out)))
  go_wp2
  go_ret2
  exact⟨rfl,A0.drewN_ (A0.refl _) _⟩
theorem E4t (B b:Nat) (C:D9) (S:C8) (X:Pl) (a:Int) (h0:0≤a) (h1:a≤18446744073709551615) (w:World) (hO:G7 w B b C S X) (hok:C.M.Ok) (hs:G2 C.M) (hst:stays C.M a=false) (r:Option Int) (hl:K0 C.mv (C9 a)=r) :
  Calls Zb 95 #[.pointer (some ⟨X.c,0,none⟩),.int .u64 a] w (fun e w'=>e=.returned (.tuple #[.int .u64 (D3 (r.getD 0)),.bool r.isSome])∧A0 w w'):=by
 have hM:=hO.mem.mem hok;have f0:=hO.f0;have f4:=hO.f4;have HM:=Hz hM;have HS:=Hz hs;obtain⟨k1,k2,k3⟩:=C3l hst;have hlk:∀ n,(Instr.lookup 103 (.map (some X.mb)) (.int .i64 (C9 a)) true).run Zb (w.drewN n)=.ok (.tuple #[.int .i64 (r.getD 0),.bool r.isSome]) (w.drewN n):=fun n=>by
  rw[C1i (hO.ext (Y0 _ n)),hl]
 clear hM hs hO hst hl
 go_enter Tryz.func95,Tryz.ntmps95
 go_wp2
 go_quiet (first
  | (go_at_call 103;exact Za (O8 _ h0 h1 _))
  | (go_at_call 104;exact Za (A0h _ h0 h1 _))
  | (go_at_call 101;exact Za (A1u _ _ b 0 C.M S (HM.out.ext (Y0 _ _)) HS.out)))
 go_wp2;refine P4 (fun W1 hW1=>?_);have g4:W1.cell? ⟨X.c,4,none⟩=some (.map (some X.mb)):=by rw[hW1];simpa using f4
 have glk:∀ n,(Instr.lookup 103 (.map (some X.mb)) (.int .i64 (C9 a)) true).run Zb (W1.drewN n)=.ok (.tuple #[.int .i64 (r.getD 0),.bool r.isSome]) (W1.drewN n):=fun n=>by
  rw[hW1,World.drewN_drewN];exact hlk _
 have HX1:Hid (A0 w W1):=by unfold Hid;rw[hW1];exact A0.drewN_ (A0.refl _) _
 clear hW1 hlk f4 f0 k1 k2 k3
 go_quiet (first
  | (go_at_call 104;exact Za (A0h _ h0 h1 _)))
 go_wp2_with (first
  | (go_at_call 43;refine (B0g _ _).mono ?_;rintro e w' ⟨rfl,rfl⟩))
 go_ret2
 exact⟨rfl,by repeat (first|exact HX1.out|exact A0.refl _|(refine A0.drewN_ ?_ _)|(refine A0.drew_ ?_))⟩
theorem E4r (B b:Nat) (C:D9) (S:C8) (X:Pl) (a:Int) (h0:0≤a) (h1:a≤18446744073709551615) (w:World) (hO:G7 w B b C S X) (hok:C.M.Ok) (hs:G2 C.M) :
  Calls Zb 95 #[.pointer (some ⟨X.c,0,none⟩),.int .u64 a] w (fun e w'=>e=.returned (.tuple #[.int .u64 (O0 C a).1,.bool (O0 C a).2])∧A0 w w'):=by
 unfold O0
 cases hst:stays C.M a with
 | true =>
  simp only[if_true];exact E4u B b C S X a h0 h1 w hO hok hs hst
 | false =>
  simp only[Bool.false_eq_true,if_false];have:=E4t B b C S X a h0 h1 w hO hok hs hst _ rfl
  cases hl:K0 C.mv (C9 a)<;>(rw[hl] at this;exact this)
def B1d (C:D9):Nat→Nat→Prop
 | _,0=>True
 | i,n+1=>i<C.M.W.length∧C.M.Ok∧G2 C.M∧A7m C (A6 C.M.W i)∧(0≤(F9 C (A6 C.M.W i)).1∧(F9 C (A6 C.M.W i)).1≤18446744073709551615)∧(F9 C (A6 C.M.W i)).2.M.Ok∧G2 (F9 C (A6 C.M.W i)).2.M∧i<(F9 C (A6 C.M.W i)).2.M.W.length ∧
   B1d {(F9 C (A6 C.M.W i)).2 with M:=J3 (F9 C (A6 C.M.W i)).2.M i (F9 C (A6 C.M.W i)).1} (i+1) n
structure At (w:World) (B b:Nat) (S:C8) (X X':Pl) (C':D9) (wr:World):Prop where
 c:X'.c=X.c
 mb:X'.mb=X.mb
 col:G7 wr B b C' S X'
 keep:A8 (Z3 b S X) w wr
 own:∀ k,Z3 b S X' k→Z3 b S X k∨w.heap.size≤k
theorem At.step {w wr w2:World} {B b:Nat} {S:C8} {X X':Pl} {C' C2:D9} (h:At w B b S X X' C' wr) (k:A3e wr B b S X' C2 w2):A3e w B b S X C2 w2:=F6f h.c h.mb h.keep h.own k
theorem At.of_step {w w2:World} {B b:Nat} {S:C8} {X:Pl} {C2:D9} (k:A3e w B b S X C2 w2):∃ X',At w B b S X X' C2 w2:=by
 obtain⟨X',h1,h2,h3,h4,h5⟩:=k;exact⟨X',h1,h2,h3,h4,h5⟩
theorem D2a {w w':World} {B b:Nat} {S:C8} {X:Pl} {C:D9} {M':A7} (h:G7 w B b C S X) (hm:B7 w' B b 140 M' S) (hk:A8 (A5u b S) w w'):A3e w B b S X {C with M:=M'} w' :=
 ⟨X,rfl,rfl,h.onMem hm (hk.sub fun k q=>D0f q),hk.sub fun k q=>Or.inl (D0f q),fun k q=>Or.inl q⟩
theorem At.ext {w wr w2:World} {B b:Nat} {S:C8} {X X':Pl} {C':D9} (h:At w B b S X X' C' wr) (hx:A0 wr w2):At w B b S X X' C' w2:=⟨h.c,h.mb,h.col.ext hx,h.keep.ext_ hx,h.own⟩
theorem C0e (c:Nat) (B b:Nat) (C:D9) (S:C8) (X:Pl) (hcx:X.c=c) (a:Int) (h0:0≤a) (h1:a≤18446744073709551615) (w:World) (hO:G7 w B b C S X) (hok:C.M.Ok) (hs:G2 C.M) (hc:A7m C a) :
  Calls Zb 91 #[.pointer (some ⟨c,0,none⟩),.int .u64 a] w (B9j w B b S X (F9 C a)):=by
 subst hcx;exact E0p B b C S X a h0 h1 w hO hok hs hc
theorem E0c (B b:Nat) (C:D9) (S:C8) (X:Pl) (at_ n:Nat) (w:World) (hO:G7 w B b C S X) (ha:at_≤1000000) (hn:n≤1000000) (hc:B1d C (at_+1) n) :
  Calls Zb 94 #[.pointer (some ⟨X.c,0,none⟩),.int .i64 (at_:Int),.int .i64 (n:Int)] w (fun e w'=>e=.returned (.tuple #[])∧A3e w B b S X (A6a C (at_+1) n) w'):=by
 have e1:IntKind.i64.wrap ((at_:Int)+1)=((at_+1+0:Nat):Int):=by rw[IntWalk.i64_in _ (by omega)];omega
 have e2:IntKind.i64.wrap ((at_:Int)+(n:Int))=(at_:Int)+(n:Int):=IntWalk.i64_in _ (by omega);have HAT:Hid (At w B b S X X C w):=⟨rfl,rfl,hO,A8.refl _ _,fun k hk=>Or.inl hk⟩;have HC:=Hz hc;clear hO hc
 go_enter Tryz.func94,Tryz.ntmps94
 go_wp2;clear e1
 go_loopw [6] (fun i wr=>∃ (k:Nat) (C1:D9) (X1:Pl),k≤n∧i=.int .i64 ((at_+1+k:Nat):Int)∧Hid (At w B b S X X1 C1 wr)∧Hid (B1d C1 (at_+1+k) (n-k))∧Hid (A6a C1 (at_+1+k) (n-k)=A6a C (at_+1) n)) (fun i _=>at_+1+n-(intOf i).toNat)
 case atStart=>exact⟨0,C,X,Nat.zero_le _,rfl,HAT,HC,rfl⟩
 case round =>
  obtain⟨k,C1,X1,hk,rfl,hA,hF,hR⟩:=hrel;by_cases hlt:k<n
  ·have hltz:((at_+1+k:Nat):Int)≤(at_:Int)+(n:Int):=by omega
   obtain⟨m,hm⟩:∃ m,n-k=m+1:=⟨n-k-1,by omega⟩;rw[hm] at hF hR;obtain⟨c1,c2,c3,c4,c5,c6,c7,c8,c9⟩:=hF.out;obtain⟨i,hi⟩:∃ i,i=at_+1+k:=⟨_,rfl⟩;rw[←hi] at c1 c4 c5 c6 c7 c8 c9 hR hltz ⊢;have hO:=hA.out.col;have hM:=hO.mem.mem c2;obtain⟨g,hg,hgB,hgl,hgf,hgc,-⟩:=Q3 hO.mem.fW (by omega);have q3:=hM.W;simp only[Nat.zero_add] at q3;rw[hg] at q3;have f0:=hO.f0;rw[hA.out.c] at f0;have hcell:wr.cell? ⟨g,i,none⟩=some (.int .u64 (A6 C1.M.W i)):=by
    have:=hM.rW;rw[hg] at this;simpa [A6] using this.at_ (K2 C1.M.W i c1)
   have hiz:(i:Int)<(C1.M.W.length:Int):=by omega
   have hxr:=O6 c2 i;have e3:IntKind.i64.wrap ((i:Int)+1)=((i+1:Nat):Int):=by rw[IntWalk.i64_in _ (by omega)];omega
   have HA:=Hz hA.out;have HO:=Hz hO;have H2:=Hz c2;have H3:=Hz c3;have H4:=Hz c4;have H5:=Hz c5;have H6:=Hz c6;have H7:=Hz c7;have H8:=Hz c8;have H9:=Hz c9;have HI:=Hz hi;have HXR:=Hz hxr;have HM2:=Hz hm;clear c2 c3 c4 c5 c6 c7 c8 c9 hA hF hO hM hg hgf hgB hgc hi hxr hm hgl c1;go_wp2;refine wp_region_held_drew (S:=fun W=>W.cell? ⟨X.c,0,none⟩=some (.pointer (some ⟨b,0,none⟩))) (by kernel_rfl) ?_ (fun hH=>?_)
   ·exact f0
   refine tJ 0 16 rfl ?_
   try simp only[A5]
   refine tJ 1 17 rfl ?_
   try simp only[A5]
   refine tJ 2 18 rfl ?_
   try simp only[A5]
   refine tJ 3 19 rfl ?_
   try simp only[A5]
   refine tJ 4 20 rfl ?_
   try simp only[A5]
   refine tJ 5 21 rfl ?_
   try simp only[A5]
   refine tJ 6 22 rfl ?_
   try simp only[A5]
   refine tJ 7 23 rfl ?_
   try simp only[A5]
   refine tJ 8 24 rfl ?_
   try simp only[A5]
   refine tJ 9 25 rfl ?_
   try simp only[A5]
   refine tJ 10 26 rfl ?_
   try simp only[A5]
   refine tJ 11 27 rfl ?_
   try simp only[A5]
   refine tJ 13 29 rfl ?_
   try simp only[A5]
   refine wpAnyH_ready (rs:=[12]) (by kernel_rfl) (by simp) ?_;refine AllReadyH.cons (o:=⟨some 28,_,_,_,_,_⟩) rfl (fun K hK=>?_) AllReadyH.nil;go_simp;skip;refine hK.out _ _ ?_ (fun hH=>?_)
   ·(try dsimp only);exact f0
   clear hK K
   try simp only[A5]
   refine tJ 14 30 rfl ?_
   try simp only[A5]
   refine wpAnyH_ready (rs:=[15]) (by kernel_rfl) (by simp) ?_;refine AllReadyH.cons (o:=⟨some 31,_,_,_,_,_⟩) rfl (fun K hK=>?_) AllReadyH.nil;go_simp;skip;refine hK.out _ _ ?_ (fun hH=>?_)
   ·(try dsimp only);exact f0
   clear hK K
   try simp only[A5]
   refine wpAnyH_ready (rs:=[16]) (by kernel_rfl) (by simp) ?_;refine AllReadyH.cons (o:=⟨some 32,_,_,_,_,_⟩) rfl (fun K hK=>?_) AllReadyH.nil;go_simp;refine (C0e X.c B b C1 S X1 HA.out.c (A6 C1.M.W i) HXR.out.1 HXR.out.2 _ (HO.out.ext eX) H2.out H3.out H4.out).mono ?_;rintro e w9 ⟨rfl,hq⟩;obtain⟨X2,hA2⟩:=At.of_step ((HA.out.ext eX).step hq);have f9:=hA2.col.f0;rw[hA2.c] at f9;have HA2:=Hz hA2;clear hq hA2;refine hK.out _ _ ?_ (fun hH=>?_)
   ·(try dsimp only);exact f9
   clear hK K
   try simp only[A5]
   refine wpAnyH_ready (rs:=[17]) (by kernel_rfl) (by simp) ?_;refine AllReadyH.cons (o:=⟨some 33,_,_,_,_,_⟩) rfl (fun K hK=>?_) AllReadyH.nil;go_simp;refine (C2y B b (F9 C1 (A6 C1.M.W i)).2.M S _ HA2.out.col.mem H6.out H7.out i H8.out _ H5.out.1 H5.out.2).mono ?_;rintro e w10 ⟨rfl,hq1,hq2⟩;obtain⟨X3,hA3⟩:=At.of_step (HA2.out.step (D2a HA2.out.col hq1 hq2));have f10:=hA3.col.f0;rw[hA3.c] at f10;have HA3:=Hz hA3;clear hq1 hq2 hA3;refine hK.out _ _ ?_ (fun hH=>?_)
   ·(try dsimp only);exact f10
   clear hK K
   try simp only[A5]
   refine wpAnyH_done (by kernel_rfl) ?_ _;clear hH f0 f9 f10 q3 hcell;go_wp2
   go_roundw
   case rel =>
    have hi:=HI.out;have hm:=HM2.out;refine⟨k+1,_,X3,by omega,by go_num,HA3.out,?_,?_⟩
    ·rw[show at_+1+(k+1)=i+1 by omega,show n-(k+1)=m by omega];exact H9.out
    ·rw[show at_+1+(k+1)=i+1 by omega,show n-(k+1)=m by omega];exact hR.out
   case measure =>
    have hi:=HI.out;simp[intOf];omega
  ·have hltz:¬((at_+1+k:Nat):Int)≤(at_:Int)+(n:Int):=by omega
   obtain rfl:k=n:=by omega
   rw[Nat.sub_self] at hR;have hR':C1=A6a C (at_+1) k:=hR.out;have HR:=Hz hR';clear hR hR' hlt;go_wp2
   go_returns
   refine⟨rfl,?_⟩;rw[←HR.out];exact⟨X1,hA.out.c,hA.out.mb,hA.out.col,hA.out.keep,hA.out.own⟩
structure A0l (w:World) (B fb:Nat) (l:List Int) (v:Value):Prop where
 hb:B≤fb
 blk:∃ cur t,w.heap[fb]?=some (.cells cur t (0,0))
 cell:w.cell? ⟨fb,0,none⟩=some v
 row:I9 w B 3 v (K6 l)
 no:v.ownBlock≠some fb
theorem A0l.lt {w:World} {B fb:Nat} {l:List Int} {v:Value} (h:A0l w B fb l v):fb<w.heap.size:=by obtain⟨cur,t,hc⟩:=h.blk;exact lt_of_block hc
theorem A0l.frozen {w:World} {B fb:Nat} {l:List Int} {v:Value} (h:A0l w B fb l v) (j:Nat):w.frozen? ⟨fb,j,none⟩=false:=by
 obtain⟨cur,t,hc⟩:=h.blk;simp[World.frozen?,hc]
theorem A0l.ext {w w':World} {B fb:Nat} {l:List Int} {v:Value} (h:A0l w B fb l v) (hx:A0 w w'):A0l w' B fb l v :=
 ⟨h.hb,by rw[Below.block hx _ h.lt];exact h.blk,hx.cell_ h.cell,h.row.ext hx,h.no⟩
def B9b (w:World) (B fb:Nat) (v:Value) (l:List Int) (e:Ending) (w':World):Prop :=
 e=.returned (.bool true)∧∃ v',A0l w' B fb l v'∧A8 (fun k=>k=fb∨v.ownBlock=some k) w w'∧∀ k,v'.ownBlock=some k→v.ownBlock=some k∨w.heap.size≤k
theorem E1a (B fb:Nat) (l:List Int) (v:Value) (a x:Int) (w:World) (h:A0l w B fb l v) (hr:D2 (B3 x)=true) :
  Calls Zb 93 #[.int .i64 a,A1g x,.pointer (some ⟨fb,0,none⟩)] w (B9b w B fb v l):=by
 have HH:=Hz h;have HR:=Hz hr;unfold A1g;clear h hr
 go_enter Tryz.func93,Tryz.ntmps93
 go_wp2_with (go_at_call 89;refine (A3l _ _).mono ?_;rintro e w' ⟨he,rfl⟩;rw[HR.out] at he;subst he)
 go_ret;exact⟨rfl,v,HH.out.ext ((A0.refl _).alloc_ _),A8.of_ext ((A0.refl _).alloc_ _),fun k hk=>Or.inl hk⟩
theorem E0z (B fb:Nat) (l:List Int) (v:Value) (a x:Int) (w:World) (h:A0l w B fb l v) (hr:D2 (B3 x)=false) (hl:l.length≤1000000) :
  Calls Zb 93 #[.int .i64 a,A1g x,.pointer (some ⟨fb,0,none⟩)] w (B9b w B fb v (l++[a])):=by
 have hx:A0 w (w.alloc (.cells #[.int .i64 (B3 x),.int .i64 (F4 x),.int .i64 (G5 x),.int .i64 (B5 x)] 92)):=(A0.refl _).alloc_ _;generalize hW0:w.alloc (.cells #[.int .i64 (B3 x),.int .i64 (F4 x),.int .i64 (G5 x),.int .i64 (B5 x)] 92)=W0 at hx;have h0:=h.ext hx;obtain⟨i0,hi,hz0,hz1,hz2⟩:=info_parts B6y;have htl:(K6 l).length=l.length:=by simp[K6]
 obtain⟨v9,w9,hrun9,ht9,hg9,hv9⟩:=B2k (P:=Zb) (w:=W0.alloc (.cells #[.int .i64 a] 3)) 22 22 B 3 i0 (.int .i64 0) 8 B5g hi hz0 hz1 hz2 rfl v (K6 l) (h0.row.ext ((A0.refl _).alloc_ _)) ⟨W0.heap.size,0,none⟩ 1 (.int .i64 a) (by simp[go_sem]) rfl (by rw[htl];unfold maxLen;omega) (by rw[htl];omega) (by have:=h0.hb;have:=h0.lt;simp;omega);obtain⟨a9,n9,c9,rfl⟩:=ht9.slice;obtain⟨ta,tn,tc,rfl⟩:=h.row.slice;have hK9:A8 (fun k=>(Value.slice ta tn tc).ownBlock=some k) W0 w9:=((A8.refl _ W0).alloc_ _).trans (A8.of_grown hg9 fun k hk=>Or.inl hk);have y0:w9.cell? ⟨fb,0,none⟩=some (.slice ta tn tc):=hK9.cell (p:=⟨fb,0,none⟩) h0.no h0.cell;have yf:w9.frozen? ⟨fb,0,none⟩=false:=by rw[hK9.frozen (p:=⟨fb,0,none⟩) h0.no h0.lt];exact h0.frozen 0
 have hv9':∀ k,(Value.slice a9 n9 c9).ownBlock=some k→(Value.slice ta tn tc).ownBlock=some k∨W0.heap.size≤k:=fun k hk=>by
  rcases hv9 k hk with q|q
  ·exact Or.inl q
  ·exact Or.inr (by simp at q;omega)
 have hno:(Value.slice a9 n9 c9).ownBlock≠some fb:=fun e=>by
  rcases hv9' fb e with q|q
  ·exact h0.no q
  ·have:=h0.lt;omega
 have hfin:A0l (w9.setCell ⟨fb,0,none⟩ (.slice a9 n9 c9)) B fb (l++[a]) (.slice a9 n9 c9) :=
  ⟨h0.hb,A3g (by rw[hK9.block _ h0.lt h0.no];exact h0.blk),A1c y0,I9.kept (by simpa [K6] using ht9) (fun g hg=>heap_setCell_other w9 _ g _ (fun e=>hno (by rw[←show g=fb from e];exact hg))),hno⟩
 have hK:A8 (fun k=>k=fb∨(Value.slice ta tn tc).ownBlock=some k) w (w9.setCell ⟨fb,0,none⟩ (.slice a9 n9 c9)) :=
  A8.set_ (L:=fun k=>k=fb∨(Value.slice ta tn tc).ownBlock=some k) ((A8.of_ext hx).trans (hK9.sub fun k hk=>Or.inr hk)) (p:=⟨fb,0,none⟩) (Or.inl (Or.inl rfl)) _
 have hsz:w.heap.size≤W0.heap.size:=Below.size hx;have z0:=h.cell;have z1:=h.lt;have hW0sz:W0.heap.size=w.heap.size+1:=by rw[←hW0];simp
 rw[hW0sz] at hrun9;clear hW0sz;subst hW0;have HFIN:=Hz hfin;have HK:=Hz hK;have HV:=Hz hv9';have HRUN:=Hz hrun9;have HR:=Hz hr;have HSZ:=Hz hsz;unfold A1g;clear h h0 hr hi hz0 hz1 hz2 htl hrun9 ht9 hg9 hv9 hK9 hv9' hno hfin hK hsz hx
 go_enter Tryz.func93,Tryz.ntmps93
 go_wp2_with (first
  | (go_at_call 89;refine (A3l _ _).mono ?_;rintro e w' ⟨he,rfl⟩;rw[HR.out] at he;subst he)
  | (at_builtin;refine B5j rfl _ _ 22 rfl (.slice ta tn tc) _ rfl rfl HRUN.out ?_))
 go_ret;refine⟨rfl,_,HFIN.out,HK.out,fun k hk=>?_⟩;rcases HV.out k hk with q|q
 ·exact Or.inl q
 ·exact Or.inr (Nat.le_trans HSZ.out q)
theorem D9c (w0:World) (b o:Nat) (M:A7) (S:C8) (hM:G8 w0 b o M S) (gb gs:Addr) (hG:A1o w0 gb) (hS:A0d w0 gs)
  (L:Nat→Prop) (g:Nat) (lb:Array Value) (eg:∀ args w,(callFunc g args).run Zb w=.ok (.enter g args) w) (see:Ob→Bool) (I:List Ob→World→Prop)
  (w:World) (hE:A0 w0 w) (hL:∀ k,L k→w0.heap.size≤k) (D:World→Nat→Prop) (hD:∀ v w' w'' k,I v w'→A0 w' w''→D w'' k→k<w'.heap.size) (hX:∀ v w w',I v w→A0 w w'→I v w') (a to:Nat) (hto:to≤M.W.length) (hlen:M.W.length≤196608) (v0:List Ob)
  (hC:∀ v x w',I v w'→A8 L w w'→A7r M.W a to x→v.length≤v0.length+(part M.W a to).1.length→Calls Zb g (#[.int .i64 (x.a:Int),A1g x.w]++lb) w' fun e w''=>e=.returned (.bool (see x))∧I (v++[x]) w''∧A8 L w' w''∧A8 (D w') w' w'')
  (hat:a≤to) (hI:I v0 w) :
  Calls Zb 92 #[.pointer (some ⟨b,o,none⟩),.int .i64 (a:Int),.int .i64 (to:Int),.func (.func g) #[] lb] w (C3q L w I see v0 (part M.W a to)):=by
 have HX:=Hz hX;have HC:=Hz hC;have HL:=Hz hL;have HDX:=Hz hD;have HE:=Hz hE;have HM:=Hz hM;have HG:=Hz hG;have HS:=Hz hS;have HI:Hid (I v0 w):=hI;clear hX hM hC hI hL hD hE hG hS
 go_enter Tryz.func92,Tryz.ntmps92
 go_wp2
 go_loopw [1] (fun i wr=>∃ (k:Nat) (v:List Ob),a≤k∧k≤to∧i=.int .i64 (k:Int)∧Hid (I (v0++v) wr)∧Hid (part M.W a to=(v++(part M.W k to).1,(part M.W k to).2))∧Hid (v.all see=true)∧Hid (A8 L w wr))
  (fun i _=>to-(intOf i).toNat)
 case atStart=>exact⟨a,[],Nat.le_refl _,hat,rfl,by rw[List.append_nil];exact HI,rfl,rfl,A8.refl _ _⟩
 case round =>
  obtain⟨k,v,hk1,hk2,rfl,hI,hP,hA,hK⟩:=hrel;by_cases hlt:k<to
  ·have hkW:k<M.W.length:=by omega
   have hEr:A0 w0 wr:=A0.keep HE.out hK.out fun i hi=>HL.out i hi
   have hMr:G8 wr b o M S:=HM.out.ext hEr;have c_W:=hMr.W;obtain⟨wb,wo,hWa,hc⟩:=hMr.rW k _ (K2 M.W k hkW);rw[hWa] at c_W;have hcapW:=hMr.capW;have hgb:A1o wr gb:=hEr.cell_ HG.out;have hgs:A0d wr gs:=hEr.cell_ HS.out;obtain⟨hq0,hq1⟩:=O6 HM.out.ok k;change wr.cell? ⟨wb,wo+k,none⟩=some (.int .u64 (A6 M.W k)) at hc;have HER:=Hz hEr;clear hMr hWa hEr;have hsz:B5 (A6 M.W k)≤281474976710655∧0≤B5 (A6 M.W k):=by unfold B5;omega
   obtain⟨hsz1,hsz0⟩:=hsz
   cases hd:P7 (A6 M.W k) with
   | false =>
    have HB:=Hz (B0u M.W k to hlt (by rw[hd];rfl))
    go_wp2_with (go_at_call 56;refine (D2h _ hq0 hq1 hd _ gb gs hgb hgs).mono ?_;rintro e w1 ⟨rfl,hx⟩)
    go_ret;refine⟨v,?_,?_,fun h=>?_,?_⟩
    ·rw[hP.out,HB.out];rfl
    ·refine HX.out _ _ _ hI.out ?_
     repeat (first|exact hx|exact A0.refl _|(refine A0.set_ ?_ (by simp;omega) _)|(refine A0.alloc_ ?_ _)|(refine A0.drew_ ?_)|(refine A0.drewN_ ?_ _))
    ·rw[hP.out,HB.out] at h;cases h
    ·refine hK.out.ext_ ?_
     repeat (first|exact hx|exact A0.refl _|(refine A0.set_ ?_ (by simp;omega) _)|(refine A0.alloc_ ?_ _)|(refine A0.drew_ ?_)|(refine A0.drewN_ ?_ _))
   | true =>
    by_cases hfit:(k:Int)+1+B5 (A6 M.W k)≤(to:Int)
    ·have HIN:Hid (A7r M.W a to ⟨k,A6 M.W k⟩):=⟨rfl,hd,hk1,by show k+1+(B5 (A6 M.W k)).toNat≤to;omega⟩;have HB:=Hz (B4s M.W k to hd (by omega))
     cases hsee:see ⟨k,A6 M.W k⟩ with
     | false =>
      have HSEE:=Hz hsee
      go_wp2_with (first
       | (go_at_call 56;refine (A3d _ hq0 hq1 hd _).mono ?_;rintro e w1 ⟨rfl,hx⟩;have hxs:=hx.size))
      refine (HC.out (v0++v) ⟨k,A6 M.W k⟩ _ ?_ ?_ HIN.out (by have h:=hP.out;rw[h];simp)).mono ?_
      ·refine HX.out _ _ _ hI.out ?_
       repeat (first|exact hx|exact A0.refl _|(refine A0.set_ ?_ (by simp;omega) _)|(refine A0.alloc_ ?_ _)|(refine A0.drew_ ?_)|(refine A0.drewN_ ?_ _))
      ·refine hK.out.ext_ ?_
       repeat (first|exact hx|exact A0.refl _|(refine A0.set_ ?_ (by simp;omega) _)|(refine A0.alloc_ ?_ _)|(refine A0.drew_ ?_)|(refine A0.drewN_ ?_ _))
      rintro e w2 ⟨he,hI2,hK2,hD2⟩;rw[hsee] at he;subst he;have HK2:=Hz hK2;clear hK2 hD2 hsee;go_wp2;go_ret;refine⟨v++[⟨k,A6 M.W k⟩],?_,?_,fun h=>?_,?_⟩
      ·rw[hP.out,HB.out];simp[HSEE.out]
      ·rw[←List.append_assoc];exact hI2
      ·rw[hP.out,HB.out] at h;simp[HSEE.out] at h
      ·refine A8.trans (hK.out.ext_ ?_) HK2.out
       repeat (first|exact hx|exact A0.refl _|(refine A0.set_ ?_ (by simp;omega) _)|(refine A0.alloc_ ?_ _)|(refine A0.drew_ ?_)|(refine A0.drewN_ ?_ _))
     | true =>
      have HSEE:=Hz hsee
      go_wp2_with (first
       | (go_at_call 56;refine (A3d _ hq0 hq1 hd _).mono ?_;rintro e w1 ⟨rfl,hx⟩;have hxs:=hx.size))
      refine (HC.out (v0++v) ⟨k,A6 M.W k⟩ _ ?_ ?_ HIN.out (by have h:=hP.out;rw[h];simp)).mono ?_
      ·refine HX.out _ _ _ hI.out ?_
       repeat (first|exact hx|exact A0.refl _|(refine A0.set_ ?_ (by simp;omega) _)|(refine A0.alloc_ ?_ _)|(refine A0.drew_ ?_)|(refine A0.drewN_ ?_ _))
      ·refine hK.out.ext_ ?_
       repeat (first|exact hx|exact A0.refl _|(refine A0.set_ ?_ (by simp;omega) _)|(refine A0.alloc_ ?_ _)|(refine A0.drew_ ?_)|(refine A0.drewN_ ?_ _))
      rintro e w2 ⟨he,hI2,hK2,hD2⟩;rw[hsee] at he;subst he;have hq3:w2.cell? ⟨w1.heap.size,3,none⟩=some (.int .i64 (B5 (A6 M.W k))):=hD2.cell (fun h=>by
       have h1:=HDX.out _ _ _ _ hI.out (by repeat (first|exact hx|exact A0.refl _|(refine A0.set_ ?_ (by simp;omega) _)|(refine A0.alloc_ ?_ _)|(refine A0.drew_ ?_)|(refine A0.drewN_ ?_ _))) h;simp only at h1;omega) (by simp[go_sem])
      have HK2:=Hz hK2;have HI2:=Hz hI2;clear hK2 hD2 hsee hI2;go_wp2
      go_roundw
      case rel =>
       refine⟨k+1+(B5 (A6 M.W k)).toNat,v++[⟨k,A6 M.W k⟩],by omega,by omega,?_,?_,?_,?_,?_⟩
       ·go_num
       ·rw[←List.append_assoc];exact HI2.out
       ·show part M.W a to=_;rw[hP.out,HB.out];simp
       ·show (v++[_]).all see=true;simp[hA.out,HSEE.out]
       ·refine A8.trans (hK.out.ext_ ?_) HK2.out
        repeat (first|exact hx|exact A0.refl _|(refine A0.set_ ?_ (by simp;omega) _)|(refine A0.alloc_ ?_ _)|(refine A0.drew_ ?_)|(refine A0.drewN_ ?_ _))
      case measure=>simp[intOf];omega
    ·have HB:=Hz (B0u M.W k to hlt (by rw[hd];simp;omega))
     go_wp2_with (go_at_call 56;refine (A3d _ hq0 hq1 hd _).mono ?_;rintro e w1 ⟨rfl,hx⟩;have hxs:=hx.size)
     go_ret;refine⟨v,?_,?_,fun h=>?_,?_⟩
     ·rw[hP.out,HB.out];rfl
     ·refine HX.out _ _ _ hI.out ?_
      repeat (first|exact hx|exact A0.refl _|(refine A0.set_ ?_ (by simp;omega) _)|(refine A0.alloc_ ?_ _)|(refine A0.drew_ ?_)|(refine A0.drewN_ ?_ _))
     ·rw[hP.out,HB.out] at h;cases h
     ·refine hK.out.ext_ ?_
      repeat (first|exact hx|exact A0.refl _|(refine A0.set_ ?_ (by simp;omega) _)|(refine A0.alloc_ ?_ _)|(refine A0.drew_ ?_)|(refine A0.drewN_ ?_ _))
  ·have HD:=Hz (B4r M.W k to (by omega));go_wp2;go_ret;refine⟨v,?_,hI.out,fun _=>?_,hK.out⟩
   ·rw[hP.out,HD.out];simp[hA.out]
   ·rw[hP.out,HD.out];simp
def A9q (C:D9):Nat→Nat→D9
 | _,0=>C
 | i,n+1=>let r:=F9 C (C.M.roots.getD i 0);A9q {r.2 with M:={r.2.M with roots:=r.2.M.roots.set i r.1}} (i+1) n
def A1a (was:List Bool) (C:D9):Nat→Nat→D9
 | _,0=>C
 | i,n+1 =>
  if was.getD (A1q C.M (i:Int)) false then
   let r:=F9 C (A6 C.M.W i);A1a was {r.2 with M:=J3 r.2.M i r.1} (i+1) n
  else A1a was C (i+1) n
def A6l (was:List Bool):D9→List Int→D9
 | C,[]=>C
 | C,a::l=>A6l was (A1a was C (a.toNat+1) (B5 (A6 C.M.W a.toNat)).toNat) l
def A7i:Nat→D9→D9
 | 0,C=>C
 | n+1,C =>
  match C.todo with
  | []=>C
  | a::t=>A7i n (A6a {C with todo:=t} (a.toNat+1) (B5 (A6 C.M.W a.toNat)).toNat)
def A0u (C:D9):List Int:=C.M.weak.map fun a=>if (O0 C a).2 then (O0 C a).1 else 2
def A3s (C:D9):List (Int × Int):=C.M.ids.filterMap fun x=>if (O0 C x.1).2 then some ((O0 C x.1).1,x.2) else none
def A2g (M:A7):List Int:=((part M.W (2*M.half).toNat (2*M.half+M.oldTop).toNat).1.filter fun x=>!D2 (B3 x.w)).map fun x=>(x.a:Int)
def A3y (M:A7) (ten:Int):D9:={M:=M,ten:=ten,base:=(1-M.used)*M.half,top:=0,mv:=[],todo:=[]}
end Go.Proofs.YtelhoppfidibiaaGreatDoor
