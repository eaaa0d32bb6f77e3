/- The walks of the nursery's collector's follow. -/
import Derived.Test.YtelhoppfidibiaaGreatDoorJTa12
import Derived.Deep.QuietTactic
import Derived.BigQuiet
import Derived.Deep.RegionHeld3
import Derived.Test.YtelhoppfidibiaaGreatDoorJTa04
set_option linter.unusedSimpArgs false
set_option linter.unusedVariables false
set_option maxHeartbeats 8000000
set_option maxRecDepth 100000
namespace Go.Proofs.YtelhoppfidibiaaGreatDoor
open Go.RowKit
def WPost (w:World) (B b:Nat) (S:Sls) (X:Pl) (r:Int × Col) (e:Ending) (w':World):Prop:=e=.returned (.int .u64 r.1)∧CStep w B b S X r.2 w'
theorem move_any (B b:Nat) (C:Col) (S:Sls) (X:Pl) (j:Nat) (w:World) (hO:OCol w B b C S X) (hc:CanMove C j) :
  Calls Tryz.prog 144 #[.pointer (some ⟨X.c,0,none⟩),.int .i64 (j:Int)] w fun e w'=>e=.returned (.int .i64 (moveTo C j))∧CStep w B b S X (moveC C j) w':=by
 by_cases h:C.ten≤hAge (wat C.M.W j)
 ·exact move_old B b C S X j w hO hc h
 ·exact move_new B b C S X j w hO hc h
theorem zeroInt (w:World):(zeroValue 3).run Tryz.prog w=.ok (.int .i64 0) w:=by kernel_rfl
theorem follow_stay (B b:Nat) (C:Col) (S:Sls) (X:Pl) (a:Int) (h0:0≤a) (h1:a≤18446744073709551615) (w:World) (hO:OCol w B b C S X) (hok:C.M.Ok) (hs:Shp C.M) (hst:stays C.M a=true) :
  Calls Tryz.prog 91 #[.pointer (some ⟨X.c,0,none⟩),.int .u64 a] w (fun e w'=>e=.returned (.int .u64 a)∧Ext w w'):=by
 have hM:=hO.mem.mem hok
 have f0:=hO.f0
 have HM:=Lib.hid hM
 have HS:=Lib.hid hs
 by_cases hk:kindW a=0
 ·have k1:(kindW a != 0)=false:=by simpa using hk
  by_cases hz:a=0
  ·have k2:(a==0)=true:=by simpa using hz
   clear hk hz hM hs hO hst
   go_enter Tryz.func91,Tryz.ntmps91
   go_wp2
   go_quiet (first
    | (go_at_call 103;exact Calls.quiet_of_same (kind_any _ h0 h1 _))
    | (go_at_call 104;exact Calls.quiet_of_same (place_any _ h0 h1 _))
    | (go_at_call 101;exact Calls.quiet_of_same (inOld_any _ _ b 0 C.M S (HM.out.ext (ext_drewN _ _)) HS.out)))
   go_wp2
   go_ret
   exact⟨rfl,Ext.drewN_ (Ext.refl _) _⟩
  ·have k2:(a==0)=false:=by simpa using hz
   have k3:oldB C.M (placeW a)=true:=by
    unfold stays youngB at hst
    simpa [hk,hz] using hst
   clear hk hz hM hs hO hst
   go_enter Tryz.func91,Tryz.ntmps91
   go_wp2
   go_quiet (first
    | (go_at_call 103;exact Calls.quiet_of_same (kind_any _ h0 h1 _))
    | (go_at_call 104;exact Calls.quiet_of_same (place_any _ h0 h1 _))
    | (go_at_call 101;exact Calls.quiet_of_same (inOld_any _ _ b 0 C.M S (HM.out.ext (ext_drewN _ _)) HS.out)))
   go_wp2
   go_ret
   exact⟨rfl,Ext.drewN_ (Ext.refl _) _⟩
 ·have k1:(kindW a != 0)=true:=by simpa using hk
  clear hk hM hs hO hst
  go_enter Tryz.func91,Tryz.ntmps91
  go_wp2
  go_quiet (first
   | (go_at_call 103;exact Calls.quiet_of_same (kind_any _ h0 h1 _))
   | (go_at_call 104;exact Calls.quiet_of_same (place_any _ h0 h1 _))
   | (go_at_call 101;exact Calls.quiet_of_same (inOld_any _ _ b 0 C.M S (HM.out.ext (ext_drewN _ _)) HS.out)))
  go_wp2
  go_ret
  exact⟨rfl,Ext.drewN_ (Ext.refl _) _⟩
theorem young_parts {M:Mem} {a:Int} (h:stays M a=false):(kindW a != 0)=false∧(a==0)=false∧oldB M (placeW a)=false:=by
 unfold stays youngB at h
 simp at h
 exact⟨by simpa using h.1.1,by simpa using h.1.2,h.2⟩
theorem look_moved {w:World} {B b:Nat} {C:Col} {S:Sls} {X:Pl} (hO:OCol w B b C S X) (k:Int) :
  (Instr.lookup 103 (.map (some X.mb)) (.int .i64 k) true).run Tryz.prog w=.ok (.tuple #[.int .i64 ((mlook C.mv k).getD 0),.bool (mlook C.mv k).isSome]) w:=by
 rw[run_lookup_mapi undMoved undInt (zeroInt w) hO.map k true,mget_mvE]
 cases mlook C.mv k<;>rfl
theorem follow_known (B b:Nat) (C:Col) (S:Sls) (X:Pl) (a:Int) (h0:0≤a) (h1:a≤18446744073709551615) (w:World) (hO:OCol w B b C S X) (hok:C.M.Ok) (hs:Shp C.M) (hst:stays C.M a=false) (to:Int) (hl:mlook C.mv (placeW a)=some to) :
  Calls Tryz.prog 91 #[.pointer (some ⟨X.c,0,none⟩),.int .u64 a] w (fun e w'=>e=.returned (.int .u64 (addrW to))∧Ext w w'):=by
 have hM:=hO.mem.mem hok
 have f0:=hO.f0
 have f4:=hO.f4
 have HM:=Lib.hid hM
 have HS:=Lib.hid hs
 obtain⟨k1,k2,k3⟩:=young_parts hst
 have hlk:∀ n,(Instr.lookup 103 (.map (some X.mb)) (.int .i64 (placeW a)) true).run Tryz.prog (w.drewN n)=.ok (.tuple #[.int .i64 to,.bool true]) (w.drewN n):=fun n=>by
  rw[look_moved (hO.ext (ext_drewN _ n)),hl];rfl
 clear hM hs hO hst hl
 go_enter Tryz.func91,Tryz.ntmps91
 go_wp2
 go_quiet (first
  | (go_at_call 103;exact Calls.quiet_of_same (kind_any _ h0 h1 _))
  | (go_at_call 104;exact Calls.quiet_of_same (place_any _ h0 h1 _))
  | (go_at_call 101;exact Calls.quiet_of_same (inOld_any _ _ b 0 C.M S (HM.out.ext (ext_drewN _ _)) HS.out)))
 go_wp2_with (first
  | (go_at_call 104;refine (place_any _ h0 h1 _).mono ?_;rintro e w' ⟨rfl,rfl⟩)
  | (go_at_call 43;refine (addr_any _ _).mono ?_;rintro e w' ⟨rfl,rfl⟩))
 go_ret
 exact⟨rfl,Ext.drewN_ (Ext.refl _) _⟩
theorem follow_move (B b:Nat) (C:Col) (S:Sls) (X:Pl) (a:Int) (h0:0≤a) (h1:a≤18446744073709551615) (w:World) (hO:OCol w B b C S X) (hst:stays C.M a=false) (hl:mlook C.mv (placeW a)=none) (j:Nat) (hj:placeW a=(j:Int)) (hc:CanMove C j) :
  Calls Tryz.prog 91 #[.pointer (some ⟨X.c,0,none⟩),.int .u64 a] w (fun e w'=>e=.returned (.int .u64 (addrW (moveTo C j)))∧CStep w B b S X (moveC C j) w'):=by
 have hM:=hO.mem.mem hc.ok
 have f0:=hO.f0
 have f4:=hO.f4
 have HM:=Lib.hid hM
 have HS:=Lib.hid hc.shp
 have HC:=Lib.hid hc
 have HO:=Lib.hid hO
 obtain⟨k1,k2,k3⟩:=young_parts hst
 have hlk:∀ n,(Instr.lookup 103 (.map (some X.mb)) (.int .i64 (placeW a)) true).run Tryz.prog (w.drewN n)=.ok (.tuple #[.int .i64 0,.bool false]) (w.drewN n):=fun n=>by
  rw[look_moved (hO.ext (ext_drewN _ n)),hl];rfl
 have HJ:=Lib.hid hj
 clear hM hO hst hl hc hj
 go_enter Tryz.func91,Tryz.ntmps91
 go_wp2
 go_quiet (first
  | (go_at_call 103;exact Calls.quiet_of_same (kind_any _ h0 h1 _))
  | (go_at_call 104;exact Calls.quiet_of_same (place_any _ h0 h1 _))
  | (go_at_call 101;exact Calls.quiet_of_same (inOld_any _ _ b 0 C.M S (HM.out.ext (ext_drewN _ _)) HS.out)))
 go_wp2_with (first
  | (go_at_call 104;refine (place_any _ h0 h1 _).mono ?_;rintro e w' ⟨rfl,rfl⟩)
  | (go_at_call 43;refine (addr_any _ _).mono ?_;rintro e w' ⟨rfl,rfl⟩)
  | (go_at_call 144;rw[HJ.out];refine (move_any B b C S X j _ (HO.out.ext (ext_drewN _ _)) HC.out).mono ?_;rintro e w9 ⟨rfl,hq⟩;have HQ:=Lib.hid hq;clear hq))
 go_ret
 refine⟨rfl,?_⟩
 obtain⟨X',x1,x2,x3,x4,x5⟩:=HQ.out
 exact⟨X',x1,x2,x3,(Keep.of_ext (ext_drewN _ _)).trans x4,x5⟩
theorem ext_step {w w':World} {B b:Nat} {S:Sls} {X:Pl} {C:Col} (h:OCol w B b C S X) (hx:Ext w w'):CStep w B b S X C w':=⟨X,rfl,rfl,h.ext hx,Keep.of_ext hx,fun k hk=>Or.inl hk⟩
theorem step_then {w w1 w2:World} {B b:Nat} {S:Sls} {X X1:Pl} {C2:Col} (x1:X1.c=X.c) (x2:X1.mb=X.mb) (k1:Keep (OwnC b S X) w w1) (l1:∀ k,OwnC b S X1 k→OwnC b S X k∨w.heap.size≤k) (h:CStep w1 B b S X1 C2 w2):CStep w B b S X C2 w2:=by
 obtain⟨X2,y1,y2,y3,y4,y5⟩:=h
 refine⟨X2,y1.trans x1,y2.trans x2,y3,k1.then_ y4 fun i hi hk=>?_,fun k hk=>?_⟩
 ·rcases l1 i hk with q|q
  ·exact q
  ·omega
 ·rcases y5 k hk with q|q
  ·exact l1 k q
  ·exact Or.inr (Nat.le_trans k1.size q)
def CanFollow (C:Col) (a:Int):Prop:=stays C.M a=false→mlook C.mv (placeW a)=none→0≤placeW a∧CanMove C (placeW a).toNat
theorem follow_any (B b:Nat) (C:Col) (S:Sls) (X:Pl) (a:Int) (h0:0≤a) (h1:a≤18446744073709551615) (w:World) (hO:OCol w B b C S X) (hok:C.M.Ok) (hs:Shp C.M) (hc:CanFollow C a) :
  Calls Tryz.prog 91 #[.pointer (some ⟨X.c,0,none⟩),.int .u64 a] w (WPost w B b S X (followC C a)):=by
 unfold WPost followC
 cases hst:stays C.M a with
 | true =>
  simp only[if_true]
  exact (follow_stay B b C S X a h0 h1 w hO hok hs hst).mono fun e w' ⟨he,hq⟩=>⟨he,ext_step hO hq⟩
 | false =>
  simp only[Bool.false_eq_true,if_false]
  cases hl:mlook C.mv (placeW a) with
  | some to=>exact (follow_known B b C S X a h0 h1 w hO hok hs hst to hl).mono fun e w' ⟨he,hq⟩=>⟨he,ext_step hO hq⟩
  | none =>
   obtain⟨j0,j1⟩:=hc hst hl
   exact follow_move B b C S X a h0 h1 w hO hst hl (placeW a).toNat (by omega) j1
theorem last_stay (B b:Nat) (C:Col) (S:Sls) (X:Pl) (a:Int) (h0:0≤a) (h1:a≤18446744073709551615) (w:World) (hO:OCol w B b C S X) (hok:C.M.Ok) (hs:Shp C.M) (hst:stays C.M a=true) :
  Calls Tryz.prog 95 #[.pointer (some ⟨X.c,0,none⟩),.int .u64 a] w (fun e w'=>e=.returned (.tuple #[.int .u64 a,.bool true])∧Ext w w'):=by
 have hM:=hO.mem.mem hok
 have f0:=hO.f0
 have HM:=Lib.hid hM
 have HS:=Lib.hid hs
 by_cases hk:kindW a=0
 ·have k1:(kindW a != 0)=false:=by simpa using hk
  by_cases hz:a=0
  ·have k2:(a==0)=true:=by simpa using hz
   clear hk hz hM hs hO hst
   go_enter Tryz.func95,Tryz.ntmps95
   go_wp2
   go_quiet (first
    | (go_at_call 103;exact Calls.quiet_of_same (kind_any _ h0 h1 _))
    | (go_at_call 104;exact Calls.quiet_of_same (place_any _ h0 h1 _))
    | (go_at_call 101;exact Calls.quiet_of_same (inOld_any _ _ b 0 C.M S (HM.out.ext (ext_drewN _ _)) HS.out)))
   go_wp2
   go_ret2
   exact⟨rfl,Ext.drewN_ (Ext.refl _) _⟩
  ·have k2:(a==0)=false:=by simpa using hz
   have k3:oldB C.M (placeW a)=true:=by
    unfold stays youngB at hst
    simpa [hk,hz] using hst
   clear hk hz hM hs hO hst
   go_enter Tryz.func95,Tryz.ntmps95
   go_wp2
   go_quiet (first
    | (go_at_call 103;exact Calls.quiet_of_same (kind_any _ h0 h1 _))
    | (go_at_call 104;exact Calls.quiet_of_same (place_any _ h0 h1 _))
    | (go_at_call 101;exact Calls.quiet_of_same (inOld_any _ _ b 0 C.M S (HM.out.ext (ext_drewN _ _)) HS.out)))
   go_wp2
   go_ret2
   exact⟨rfl,Ext.drewN_ (Ext.refl _) _⟩
 ·have k1:(kindW a != 0)=true:=by simpa using hk
  clear hk hM hs hO hst
  go_enter Tryz.func95,Tryz.ntmps95
  go_wp2
  go_quiet (first
   | (go_at_call 103;exact Calls.quiet_of_same (kind_any _ h0 h1 _))
   | (go_at_call 104;exact Calls.quiet_of_same (place_any _ h0 h1 _))
   | (go_at_call 101;exact Calls.quiet_of_same (inOld_any _ _ b 0 C.M S (HM.out.ext (ext_drewN _ _)) HS.out)))
  go_wp2
  go_ret2
  exact⟨rfl,Ext.drewN_ (Ext.refl _) _⟩
theorem last_known (B b:Nat) (C:Col) (S:Sls) (X:Pl) (a:Int) (h0:0≤a) (h1:a≤18446744073709551615) (w:World) (hO:OCol w B b C S X) (hok:C.M.Ok) (hs:Shp C.M) (hst:stays C.M a=false) (r:Option Int) (hl:mlook C.mv (placeW a)=r) :
  Calls Tryz.prog 95 #[.pointer (some ⟨X.c,0,none⟩),.int .u64 a] w (fun e w'=>e=.returned (.tuple #[.int .u64 (addrW (r.getD 0)),.bool r.isSome])∧Ext w w'):=by
 have hM:=hO.mem.mem hok
 have f0:=hO.f0
 have f4:=hO.f4
 have HM:=Lib.hid hM
 have HS:=Lib.hid hs
 obtain⟨k1,k2,k3⟩:=young_parts hst
 have hlk:∀ n,(Instr.lookup 103 (.map (some X.mb)) (.int .i64 (placeW a)) true).run Tryz.prog (w.drewN n)=.ok (.tuple #[.int .i64 (r.getD 0),.bool r.isSome]) (w.drewN n):=fun n=>by
  rw[look_moved (hO.ext (ext_drewN _ n)),hl]
 clear hM hs hO hst hl
 go_enter Tryz.func95,Tryz.ntmps95
 go_wp2
 go_quiet (first
  | (go_at_call 103;exact Calls.quiet_of_same (kind_any _ h0 h1 _))
  | (go_at_call 104;exact Calls.quiet_of_same (place_any _ h0 h1 _))
  | (go_at_call 101;exact Calls.quiet_of_same (inOld_any _ _ b 0 C.M S (HM.out.ext (ext_drewN _ _)) HS.out)))
 go_wp2
 refine named_world' (fun W1 hW1=>?_)
 have g4:W1.cell? ⟨X.c,4,none⟩=some (.map (some X.mb)):=by rw[hW1];simpa using f4
 have glk:∀ n,(Instr.lookup 103 (.map (some X.mb)) (.int .i64 (placeW a)) true).run Tryz.prog (W1.drewN n)=.ok (.tuple #[.int .i64 (r.getD 0),.bool r.isSome]) (W1.drewN n):=fun n=>by
  rw[hW1,World.drewN_drewN];exact hlk _
 have HX1:Hid (Ext w W1):=by unfold Hid;rw[hW1];exact Ext.drewN_ (Ext.refl _) _
 clear hW1 hlk f4 f0 k1 k2 k3
 go_quiet (first
  | (go_at_call 104;exact Calls.quiet_of_same (place_any _ h0 h1 _)))
 go_wp2_with (first
  | (go_at_call 43;refine (addr_any _ _).mono ?_;rintro e w' ⟨rfl,rfl⟩))
 go_ret2
 exact⟨rfl,by repeat (first|exact HX1.out|exact Ext.refl _|(refine Ext.drewN_ ?_ _)|(refine Ext.drew_ ?_))⟩
theorem last_any (B b:Nat) (C:Col) (S:Sls) (X:Pl) (a:Int) (h0:0≤a) (h1:a≤18446744073709551615) (w:World) (hO:OCol w B b C S X) (hok:C.M.Ok) (hs:Shp C.M) :
  Calls Tryz.prog 95 #[.pointer (some ⟨X.c,0,none⟩),.int .u64 a] w (fun e w'=>e=.returned (.tuple #[.int .u64 (lastC C a).1,.bool (lastC C a).2])∧Ext w w'):=by
 unfold lastC
 cases hst:stays C.M a with
 | true =>
  simp only[if_true]
  exact last_stay B b C S X a h0 h1 w hO hok hs hst
 | false =>
  simp only[Bool.false_eq_true,if_false]
  have:=last_known B b C S X a h0 h1 w hO hok hs hst _ rfl
  cases hl:mlook C.mv (placeW a)<;>(rw[hl] at this;exact this)
def CanFields (C:Col):Nat→Nat→Prop
 | _,0=>True
 | i,n+1=>i<C.M.W.length∧C.M.Ok∧Shp C.M∧CanFollow C (wat C.M.W i)∧(0≤(followC C (wat C.M.W i)).1∧(followC C (wat C.M.W i)).1≤18446744073709551615)∧(followC C (wat C.M.W i)).2.M.Ok∧Shp (followC C (wat C.M.W i)).2.M∧i<(followC C (wat C.M.W i)).2.M.W.length ∧
   CanFields {(followC C (wat C.M.W i)).2 with M:=storeM (followC C (wat C.M.W i)).2.M i (followC C (wat C.M.W i)).1} (i+1) n
structure At (w:World) (B b:Nat) (S:Sls) (X X':Pl) (C':Col) (wr:World):Prop where
 c:X'.c=X.c
 mb:X'.mb=X.mb
 col:OCol wr B b C' S X'
 keep:Keep (OwnC b S X) w wr
 own:∀ k,OwnC b S X' k→OwnC b S X k∨w.heap.size≤k
theorem At.step {w wr w2:World} {B b:Nat} {S:Sls} {X X':Pl} {C' C2:Col} (h:At w B b S X X' C' wr) (k:CStep wr B b S X' C2 w2):CStep w B b S X C2 w2:=step_then h.c h.mb h.keep h.own k
theorem At.of_step {w w2:World} {B b:Nat} {S:Sls} {X:Pl} {C2:Col} (k:CStep w B b S X C2 w2):∃ X',At w B b S X X' C2 w2:=by
 obtain⟨X',h1,h2,h3,h4,h5⟩:=k
 exact⟨X',h1,h2,h3,h4,h5⟩
theorem store_step {w w':World} {B b:Nat} {S:Sls} {X:Pl} {C:Col} {M':Mem} (h:OCol w B b C S X) (hm:OMem w' B b 140 M' S) (hk:Keep (OwnL b S) w w'):CStep w B b S X {C with M:=M'} w' :=
 ⟨X,rfl,rfl,h.onMem hm (hk.sub fun k q=>ownL_A q),hk.sub fun k q=>Or.inl (ownL_A q),fun k q=>Or.inl q⟩
theorem At.ext {w wr w2:World} {B b:Nat} {S:Sls} {X X':Pl} {C':Col} (h:At w B b S X X' C' wr) (hx:Ext wr w2):At w B b S X X' C' w2:=⟨h.c,h.mb,h.col.ext hx,h.keep.ext_ hx,h.own⟩
theorem follow_at (c:Nat) (B b:Nat) (C:Col) (S:Sls) (X:Pl) (hcx:X.c=c) (a:Int) (h0:0≤a) (h1:a≤18446744073709551615) (w:World) (hO:OCol w B b C S X) (hok:C.M.Ok) (hs:Shp C.M) (hc:CanFollow C a) :
  Calls Tryz.prog 91 #[.pointer (some ⟨c,0,none⟩),.int .u64 a] w (WPost w B b S X (followC C a)):=by
 subst hcx;exact follow_any B b C S X a h0 h1 w hO hok hs hc
theorem fields_walk (B b:Nat) (C:Col) (S:Sls) (X:Pl) (at_ n:Nat) (w:World) (hO:OCol w B b C S X) (ha:at_≤1000000) (hn:n≤1000000) (hc:CanFields C (at_+1) n) :
  Calls Tryz.prog 94 #[.pointer (some ⟨X.c,0,none⟩),.int .i64 (at_:Int),.int .i64 (n:Int)] w (fun e w'=>e=.returned (.tuple #[])∧CStep w B b S X (fieldsC C (at_+1) n) w'):=by
 have e1:IntKind.i64.wrap ((at_:Int)+1)=((at_+1+0:Nat):Int):=by rw[IntWalk.i64_in _ (by omega)];omega
 have e2:IntKind.i64.wrap ((at_:Int)+(n:Int))=(at_:Int)+(n:Int):=IntWalk.i64_in _ (by omega)
 have HAT:Hid (At w B b S X X C w):=⟨rfl,rfl,hO,Keep.refl _ _,fun k hk=>Or.inl hk⟩
 have HC:=Lib.hid hc
 clear hO hc
 go_enter Tryz.func94,Tryz.ntmps94
 go_wp2
 clear e1
 go_loopw [6] (fun i wr=>∃ (k:Nat) (C1:Col) (X1:Pl),k≤n∧i=.int .i64 ((at_+1+k:Nat):Int)∧Hid (At w B b S X X1 C1 wr)∧Hid (CanFields C1 (at_+1+k) (n-k))∧Hid (fieldsC C1 (at_+1+k) (n-k)=fieldsC C (at_+1) n)) (fun i _=>at_+1+n-(intOf i).toNat)
 case atStart=>exact⟨0,C,X,Nat.zero_le _,rfl,HAT,HC,rfl⟩
 case round =>
  obtain⟨k,C1,X1,hk,rfl,hA,hF,hR⟩:=hrel
  by_cases hlt:k<n
  ·have hltz:((at_+1+k:Nat):Int)≤(at_:Int)+(n:Int):=by omega
   obtain⟨m,hm⟩:∃ m,n-k=m+1:=⟨n-k-1,by omega⟩
   rw[hm] at hF hR
   obtain⟨c1,c2,c3,c4,c5,c6,c7,c8,c9⟩:=hF.out
   obtain⟨i,hi⟩:∃ i,i=at_+1+k:=⟨_,rfl⟩
   rw[←hi] at c1 c4 c5 c6 c7 c8 c9 hR hltz ⊢
   have hO:=hA.out.col
   have hM:=hO.mem.mem c2
   obtain⟨g,hg,hgB,hgl,hgf,hgc,-⟩:=own_block hO.mem.fW (by omega)
   have q3:=hM.W
   simp only[Nat.zero_add] at q3
   rw[hg] at q3
   have f0:=hO.f0
   rw[hA.out.c] at f0
   have hcell:wr.cell? ⟨g,i,none⟩=some (.int .u64 (wat C1.M.W i)):=by
    have:=hM.rW
    rw[hg] at this
    simpa [wat] using this.at_ (wcells_at C1.M.W i c1)
   have hiz:(i:Int)<(C1.M.W.length:Int):=by omega
   have hxr:=wat_in c2 i
   have e3:IntKind.i64.wrap ((i:Int)+1)=((i+1:Nat):Int):=by rw[IntWalk.i64_in _ (by omega)];omega
   have HA:=Lib.hid hA.out
   have HO:=Lib.hid hO
   have H2:=Lib.hid c2
   have H3:=Lib.hid c3
   have H4:=Lib.hid c4
   have H5:=Lib.hid c5
   have H6:=Lib.hid c6
   have H7:=Lib.hid c7
   have H8:=Lib.hid c8
   have H9:=Lib.hid c9
   have HI:=Lib.hid hi
   have HXR:=Lib.hid hxr
   have HM2:=Lib.hid hm
   clear c2 c3 c4 c5 c6 c7 c8 c9 hA hF hO hM hg hgf hgB hgc hi hxr hm hgl c1
   go_wp2
   refine wp_region_held_drew (S:=fun W=>W.cell? ⟨X.c,0,none⟩=some (.pointer (some ⟨b,0,none⟩))) (by kernel_rfl) ?_ (fun hHeld=>?_)
   ·exact f0
   refine tk 0 ⟨some 16,_,_,_,_,_⟩ ?_ rfl ?_ ?_
   rotate_left
   ·(intro w hSw;(try dsimp only at hSw);go_simp;try with_reducible rfl)
   try simp only[tkS]
   refine tk 1 ⟨some 17,_,_,_,_,_⟩ ?_ rfl ?_ ?_
   rotate_left
   ·(intro w hSw;(try dsimp only at hSw);go_simp;try with_reducible rfl)
   try simp only[tkS]
   refine tk 2 ⟨some 18,_,_,_,_,_⟩ ?_ rfl ?_ ?_
   rotate_left
   ·(intro w hSw;(try dsimp only at hSw);go_simp;try with_reducible rfl)
   try simp only[tkS]
   refine tk 3 ⟨some 19,_,_,_,_,_⟩ ?_ rfl ?_ ?_
   rotate_left
   ·(intro w hSw;(try dsimp only at hSw);go_simp;try with_reducible rfl)
   try simp only[tkS]
   refine tk 4 ⟨some 20,_,_,_,_,_⟩ ?_ rfl ?_ ?_
   rotate_left
   ·(intro w hSw;(try dsimp only at hSw);go_simp;try with_reducible rfl)
   try simp only[tkS]
   refine tk 5 ⟨some 21,_,_,_,_,_⟩ ?_ rfl ?_ ?_
   rotate_left
   ·(intro w hSw;(try dsimp only at hSw);go_simp;try with_reducible rfl)
   try simp only[tkS]
   refine tk 6 ⟨some 22,_,_,_,_,_⟩ ?_ rfl ?_ ?_
   rotate_left
   ·(intro w hSw;(try dsimp only at hSw);go_simp;try with_reducible rfl)
   try simp only[tkS]
   refine tk 7 ⟨some 23,_,_,_,_,_⟩ ?_ rfl ?_ ?_
   rotate_left
   ·(intro w hSw;(try dsimp only at hSw);go_simp;try with_reducible rfl)
   try simp only[tkS]
   refine tk 8 ⟨some 24,_,_,_,_,_⟩ ?_ rfl ?_ ?_
   rotate_left
   ·(intro w hSw;(try dsimp only at hSw);go_simp;try with_reducible rfl)
   try simp only[tkS]
   refine tk 9 ⟨some 25,_,_,_,_,_⟩ ?_ rfl ?_ ?_
   rotate_left
   ·(intro w hSw;(try dsimp only at hSw);go_simp;try with_reducible rfl)
   try simp only[tkS]
   refine tk 10 ⟨some 26,_,_,_,_,_⟩ ?_ rfl ?_ ?_
   rotate_left
   ·(intro w hSw;(try dsimp only at hSw);go_simp;try with_reducible rfl)
   try simp only[tkS]
   refine tk 11 ⟨some 27,_,_,_,_,_⟩ ?_ rfl ?_ ?_
   rotate_left
   ·(intro w hSw;(try dsimp only at hSw);go_simp;try with_reducible rfl)
   try simp only[tkS]
   refine tk 13 ⟨some 29,_,_,_,_,_⟩ ?_ rfl ?_ ?_
   rotate_left
   ·(intro w hSw;(try dsimp only at hSw);go_simp;try with_reducible rfl)
   try simp only[tkS]
   refine wpAnyH_ready (rs:=[12]) (by kernel_rfl) (by simp) ?_
   refine AllReadyH.cons (o:=⟨some 28,_,_,_,_,_⟩) rfl (fun K hK=>?_) AllReadyH.nil
   go_simp
   skip
   refine hK.out _ _ ?_ (fun hHeld=>?_)
   ·(try dsimp only);exact f0
   clear hK K
   try simp only[tkS]
   refine tk 14 ⟨some 30,_,_,_,_,_⟩ ?_ rfl ?_ ?_
   rotate_left
   ·(intro w hSw;(try dsimp only at hSw);go_simp;try with_reducible rfl)
   try simp only[tkS]
   refine wpAnyH_ready (rs:=[15]) (by kernel_rfl) (by simp) ?_
   refine AllReadyH.cons (o:=⟨some 31,_,_,_,_,_⟩) rfl (fun K hK=>?_) AllReadyH.nil
   go_simp
   skip
   refine hK.out _ _ ?_ (fun hHeld=>?_)
   ·(try dsimp only);exact f0
   clear hK K
   try simp only[tkS]
   refine wpAnyH_ready (rs:=[16]) (by kernel_rfl) (by simp) ?_
   refine AllReadyH.cons (o:=⟨some 32,_,_,_,_,_⟩) rfl (fun K hK=>?_) AllReadyH.nil
   go_simp
   refine (follow_at X.c B b C1 S X1 HA.out.c (wat C1.M.W i) HXR.out.1 HXR.out.2 _ (HO.out.ext (by repeat (first|exact Ext.refl _|(refine Ext.drew_ ?_)|(refine Ext.drewN_ ?_ _)))) H2.out H3.out H4.out).mono ?_
   rintro e w9 ⟨rfl,hq⟩
   obtain⟨X2,hA2⟩:=At.of_step ((HA.out.ext (by repeat (first|exact Ext.refl _|(refine Ext.drew_ ?_)|(refine Ext.drewN_ ?_ _)))).step hq)
   have f9:=hA2.col.f0
   rw[hA2.c] at f9
   have HA2:=Lib.hid hA2
   clear hq hA2
   refine hK.out _ _ ?_ (fun hHeld=>?_)
   ·(try dsimp only);exact f9
   clear hK K
   try simp only[tkS]
   refine wpAnyH_ready (rs:=[17]) (by kernel_rfl) (by simp) ?_
   refine AllReadyH.cons (o:=⟨some 33,_,_,_,_,_⟩) rfl (fun K hK=>?_) AllReadyH.nil
   go_simp
   refine (store_obj B b (followC C1 (wat C1.M.W i)).2.M S _ HA2.out.col.mem H6.out H7.out i H8.out _ H5.out.1 H5.out.2).mono ?_
   rintro e w10 ⟨rfl,hq1,hq2⟩
   obtain⟨X3,hA3⟩:=At.of_step (HA2.out.step (store_step HA2.out.col hq1 hq2))
   have f10:=hA3.col.f0
   rw[hA3.c] at f10
   have HA3:=Lib.hid hA3
   clear hq1 hq2 hA3
   refine hK.out _ _ ?_ (fun hHeld=>?_)
   ·(try dsimp only);exact f10
   clear hK K
   try simp only[tkS]
   refine wpAnyH_done (by kernel_rfl) ?_ _
   clear hHeld f0 f9 f10 q3 hcell
   go_wp2
   go_roundw
   case rel =>
    have hi:=HI.out
    have hm:=HM2.out
    refine⟨k+1,_,X3,by omega,by go_num,HA3.out,?_,?_⟩
    ·rw[show at_+1+(k+1)=i+1 by omega,show n-(k+1)=m by omega];exact H9.out
    ·rw[show at_+1+(k+1)=i+1 by omega,show n-(k+1)=m by omega];exact hR.out
   case measure =>
    have hi:=HI.out
    simp[intOf];omega
  ·have hltz:¬((at_+1+k:Nat):Int)≤(at_:Int)+(n:Int):=by omega
   obtain rfl:k=n:=by omega
   rw[Nat.sub_self] at hR
   have hR':C1=fieldsC C (at_+1) k:=hR.out
   have HR:=Lib.hid hR'
   clear hR hR' hlt
   go_wp2
   go_returns
   refine⟨rfl,?_⟩
   rw[←HR.out]
   exact⟨X1,hA.out.c,hA.out.mb,hA.out.col,hA.out.keep,hA.out.own⟩
structure FromV (w:World) (B fb:Nat) (l:List Int) (v:Value):Prop where
 hb:B≤fb
 blk:∃ cur t,w.heap[fb]?=some (.cells cur t (0,0))
 cell:w.cell? ⟨fb,0,none⟩=some v
 row:Tail w B 3 v (tcells l)
 no:v.ownBlock≠some fb
theorem FromV.lt {w:World} {B fb:Nat} {l:List Int} {v:Value} (h:FromV w B fb l v):fb<w.heap.size:=by obtain⟨cur,t,hc⟩:=h.blk;exact lt_of_block hc
theorem FromV.frozen {w:World} {B fb:Nat} {l:List Int} {v:Value} (h:FromV w B fb l v) (j:Nat):w.frozen? ⟨fb,j,none⟩=false:=by
 obtain⟨cur,t,hc⟩:=h.blk;simp[World.frozen?,hc]
theorem FromV.ext {w w':World} {B fb:Nat} {l:List Int} {v:Value} (h:FromV w B fb l v) (hx:Ext w w'):FromV w' B fb l v :=
 ⟨h.hb,by rw[Below.block hx _ h.lt];exact h.blk,hx.cell_ h.cell,h.row.ext hx,h.no⟩
def FromPost (w:World) (B fb:Nat) (v:Value) (l:List Int) (e:Ending) (w':World):Prop :=
 e=.returned (.bool true)∧∃ v',FromV w' B fb l v'∧Keep (fun k=>k=fb∨v.ownBlock=some k) w w'∧∀ k,v'.ownBlock=some k→v.ownBlock=some k∨w.heap.size≤k
theorem from_raw (B fb:Nat) (l:List Int) (v:Value) (a x:Int) (w:World) (h:FromV w B fb l v) (hr:rawB (hKind x)=true) :
  Calls Tryz.prog 93 #[.int .i64 a,headV x,.pointer (some ⟨fb,0,none⟩)] w (FromPost w B fb v l):=by
 have HH:=Lib.hid h
 have HR:=Lib.hid hr
 unfold headV
 clear h hr
 go_enter Tryz.func93,Tryz.ntmps93
 go_wp2_with (go_at_call 89;refine (raw_any _ _).mono ?_;rintro e w' ⟨he,rfl⟩;rw[HR.out] at he;subst he)
 go_ret
 exact⟨rfl,v,HH.out.ext ((Ext.refl _).alloc_ _),Keep.of_ext ((Ext.refl _).alloc_ _),fun k hk=>Or.inl hk⟩
theorem from_more (B fb:Nat) (l:List Int) (v:Value) (a x:Int) (w:World) (h:FromV w B fb l v) (hr:rawB (hKind x)=false) (hl:l.length≤1000000) :
  Calls Tryz.prog 93 #[.int .i64 a,headV x,.pointer (some ⟨fb,0,none⟩)] w (FromPost w B fb v (l++[a])):=by
 have hx:Ext w (w.alloc (.cells #[.int .i64 (hKind x),.int .i64 (hAge x),.int .i64 (hMark x),.int .i64 (hSize x)] 92)):=(Ext.refl _).alloc_ _
 generalize hW0:w.alloc (.cells #[.int .i64 (hKind x),.int .i64 (hAge x),.int .i64 (hMark x),.int .i64 (hSize x)] 92)=W0 at hx
 have h0:=h.ext hx
 obtain⟨i0,hi,hz0,hz1,hz2⟩:=info_parts infoInt
 have htl:(tcells l).length=l.length:=by simp[tcells]
 obtain⟨v9,w9,hrun9,ht9,hg9,hv9⟩:=run_append_tail (P:=Tryz.prog) (w:=W0.alloc (.cells #[.int .i64 a] 3)) 22 22 B 3 i0 (.int .i64 0) 8 undInts hi hz0 hz1 hz2 rfl v (tcells l) (h0.row.ext ((Ext.refl _).alloc_ _)) ⟨W0.heap.size,0,none⟩ 1 (.int .i64 a) (by simp[go_sem]) rfl (by rw[htl];unfold maxLen;omega) (by rw[htl];omega) (by have:=h0.hb;have:=h0.lt;simp;omega)
 obtain⟨a9,n9,c9,rfl⟩:=ht9.slice
 obtain⟨ta,tn,tc,rfl⟩:=h.row.slice
 have hK9:Keep (fun k=>(Value.slice ta tn tc).ownBlock=some k) W0 w9:=((Keep.refl _ W0).alloc_ _).trans (Keep.of_grown hg9 fun k hk=>Or.inl hk)
 have y0:w9.cell? ⟨fb,0,none⟩=some (.slice ta tn tc):=hK9.cell (p:=⟨fb,0,none⟩) h0.no h0.cell
 have yf:w9.frozen? ⟨fb,0,none⟩=false:=by rw[hK9.frozen (p:=⟨fb,0,none⟩) h0.no h0.lt];exact h0.frozen 0
 have hv9':∀ k,(Value.slice a9 n9 c9).ownBlock=some k→(Value.slice ta tn tc).ownBlock=some k∨W0.heap.size≤k:=fun k hk=>by
  rcases hv9 k hk with q|q
  ·exact Or.inl q
  ·exact Or.inr (by simp at q;omega)
 have hno:(Value.slice a9 n9 c9).ownBlock≠some fb:=fun e=>by
  rcases hv9' fb e with q|q
  ·exact h0.no q
  ·have:=h0.lt;omega
 have hfin:FromV (w9.setCell ⟨fb,0,none⟩ (.slice a9 n9 c9)) B fb (l++[a]) (.slice a9 n9 c9) :=
  ⟨h0.hb,blk_set (by rw[hK9.block _ h0.lt h0.no];exact h0.blk),cell_set_same y0,Tail.kept (by simpa [tcells] using ht9) (fun g hg=>heap_setCell_other w9 _ g _ (fun e=>hno (by rw[←show g=fb from e];exact hg))),hno⟩
 have hK:Keep (fun k=>k=fb∨(Value.slice ta tn tc).ownBlock=some k) w (w9.setCell ⟨fb,0,none⟩ (.slice a9 n9 c9)) :=
  Keep.set_ (L:=fun k=>k=fb∨(Value.slice ta tn tc).ownBlock=some k) ((Keep.of_ext hx).trans (hK9.sub fun k hk=>Or.inr hk)) (p:=⟨fb,0,none⟩) (Or.inl (Or.inl rfl)) _
 have hsz:w.heap.size≤W0.heap.size:=Below.size hx
 have z0:=h.cell
 have z1:=h.lt
 have hW0sz:W0.heap.size=w.heap.size+1:=by rw[←hW0];simp
 rw[hW0sz] at hrun9
 clear hW0sz
 subst hW0
 have HFIN:=Lib.hid hfin
 have HK:=Lib.hid hK
 have HV:=Lib.hid hv9'
 have HRUN:=Lib.hid hrun9
 have HR:=Lib.hid hr
 have HSZ:=Lib.hid hsz
 unfold headV
 clear h h0 hr hi hz0 hz1 hz2 htl hrun9 ht9 hg9 hv9 hK9 hv9' hno hfin hK hsz hx
 go_enter Tryz.func93,Tryz.ntmps93
 go_wp2_with (first
  | (go_at_call 89;refine (raw_any _ _).mono ?_;rintro e w' ⟨he,rfl⟩;rw[HR.out] at he;subst he)
  | (at_builtin;refine wpList_append_known rfl _ _ 22 rfl (.slice ta tn tc) _ rfl rfl HRUN.out ?_))
 go_ret
 refine⟨rfl,_,HFIN.out,HK.out,fun k hk=>?_⟩
 rcases HV.out k hk with q|q
 ·exact Or.inl q
 ·exact Or.inr (Nat.le_trans HSZ.out q)
theorem each_walk2 (w0:World) (b o:Nat) (M:Mem) (S:Sls) (hM:RMem w0 b o M S) (gb gs:Addr) (hG:GBound w0 gb) (hS:GShape w0 gs)
  (L:Nat→Prop) (g:Nat) (lb:Array Value) (eg:∀ args w,(callFunc g args).run Tryz.prog w=.ok (.enter g args) w) (see:Ob→Bool) (I:List Ob→World→Prop)
  (w:World) (hE:Ext w0 w) (hL:∀ k,L k→w0.heap.size≤k) (D:World→Nat→Prop) (hD:∀ v w' w'' k,I v w'→Ext w' w''→D w'' k→k<w'.heap.size) (hX:∀ v w w',I v w→Ext w w'→I v w') (a to:Nat) (hto:to≤M.W.length) (hlen:M.W.length≤196608) (v0:List Ob)
  (hC:∀ v x w',I v w'→Keep L w w'→ObIn M.W a to x→v.length≤v0.length+(part M.W a to).1.length→Calls Tryz.prog g (#[.int .i64 (x.a:Int),headV x.w]++lb) w' fun e w''=>e=.returned (.bool (see x))∧I (v++[x]) w''∧Keep L w' w''∧Keep (D w') w' w'')
  (hat:a≤to) (hI:I v0 w) :
  Calls Tryz.prog 92 #[.pointer (some ⟨b,o,none⟩),.int .i64 (a:Int),.int .i64 (to:Int),.func (.func g) #[] lb] w (EachPost L w I see v0 (part M.W a to)):=by
 have HX:=Lib.hid hX
 have HC:=Lib.hid hC
 have HL:=Lib.hid hL
 have HDX:=Lib.hid hD
 have HE:=Lib.hid hE
 have HM:=Lib.hid hM
 have HG:=Lib.hid hG
 have HS:=Lib.hid hS
 have HI:Hid (I v0 w):=hI
 clear hX hM hC hI hL hD hE hG hS
 go_enter Tryz.func92,Tryz.ntmps92
 go_wp2
 go_loopw [1] (fun i wr=>∃ (k:Nat) (v:List Ob),a≤k∧k≤to∧i=.int .i64 (k:Int)∧Hid (I (v0++v) wr)∧Hid (part M.W a to=(v++(part M.W k to).1,(part M.W k to).2))∧Hid (v.all see=true)∧Hid (Keep L w wr))
  (fun i _=>to-(intOf i).toNat)
 case atStart=>exact⟨a,[],Nat.le_refl _,hat,rfl,by rw[List.append_nil];exact HI,rfl,rfl,Keep.refl _ _⟩
 case round =>
  obtain⟨k,v,hk1,hk2,rfl,hI,hP,hA,hK⟩:=hrel
  by_cases hlt:k<to
  ·have hkW:k<M.W.length:=by omega
   have hEr:Ext w0 wr:=Ext.keep HE.out hK.out fun i hi=>HL.out i hi
   have hMr:RMem wr b o M S:=HM.out.ext hEr
   have c_W:=hMr.W
   obtain⟨wb,wo,hWa,hc⟩:=hMr.rW k _ (wcells_at M.W k hkW)
   rw[hWa] at c_W
   have hcapW:=hMr.capW
   have hgb:GBound wr gb:=hEr.cell_ HG.out
   have hgs:GShape wr gs:=hEr.cell_ HS.out
   obtain⟨hq0,hq1⟩:=wat_in HM.out.ok k
   change wr.cell? ⟨wb,wo+k,none⟩=some (.int .u64 (wat M.W k)) at hc
   have HER:=Lib.hid hEr
   clear hMr hWa hEr
   have hsz:hSize (wat M.W k)≤281474976710655∧0≤hSize (wat M.W k):=by unfold hSize;omega
   obtain⟨hsz1,hsz0⟩:=hsz
   cases hd:isHd (wat M.W k) with
   | false =>
    have HB:=Lib.hid (part_bad M.W k to hlt (by rw[hd];rfl))
    go_wp2_with (go_at_call 56;refine (toHead_no _ hq0 hq1 hd _ gb gs hgb hgs).mono ?_;rintro e w1 ⟨rfl,hx⟩)
    go_ret
    refine⟨v,?_,?_,fun h=>?_,?_⟩
    ·rw[hP.out,HB.out];rfl
    ·refine HX.out _ _ _ hI.out ?_
     repeat (first|exact hx|exact Ext.refl _|(refine Ext.set_ ?_ (by simp;omega) _)|(refine Ext.alloc_ ?_ _)|(refine Ext.drew_ ?_)|(refine Ext.drewN_ ?_ _))
    ·rw[hP.out,HB.out] at h;cases h
    ·refine hK.out.ext_ ?_
     repeat (first|exact hx|exact Ext.refl _|(refine Ext.set_ ?_ (by simp;omega) _)|(refine Ext.alloc_ ?_ _)|(refine Ext.drew_ ?_)|(refine Ext.drewN_ ?_ _))
   | true =>
    by_cases hfit:(k:Int)+1+hSize (wat M.W k)≤(to:Int)
    ·have HIN:Hid (ObIn M.W a to ⟨k,wat M.W k⟩):=⟨rfl,hd,hk1,by show k+1+(hSize (wat M.W k)).toNat≤to;omega⟩
     have HB:=Lib.hid (part_next M.W k to hd (by omega))
     cases hsee:see ⟨k,wat M.W k⟩ with
     | false =>
      have HSEE:=Lib.hid hsee
      go_wp2_with (first
       | (go_at_call 56;refine (toHead_yes _ hq0 hq1 hd _).mono ?_;rintro e w1 ⟨rfl,hx⟩;have hxs:=hx.size))
      refine (HC.out (v0++v) ⟨k,wat M.W k⟩ _ ?_ ?_ HIN.out (by have h:=hP.out;rw[h];simp)).mono ?_
      ·refine HX.out _ _ _ hI.out ?_
       repeat (first|exact hx|exact Ext.refl _|(refine Ext.set_ ?_ (by simp;omega) _)|(refine Ext.alloc_ ?_ _)|(refine Ext.drew_ ?_)|(refine Ext.drewN_ ?_ _))
      ·refine hK.out.ext_ ?_
       repeat (first|exact hx|exact Ext.refl _|(refine Ext.set_ ?_ (by simp;omega) _)|(refine Ext.alloc_ ?_ _)|(refine Ext.drew_ ?_)|(refine Ext.drewN_ ?_ _))
      rintro e w2 ⟨he,hI2,hK2,hD2⟩
      rw[hsee] at he
      subst he
      have HK2:=Lib.hid hK2
      clear hK2 hD2 hsee
      go_wp2
      go_ret
      refine⟨v++[⟨k,wat M.W k⟩],?_,?_,fun h=>?_,?_⟩
      ·rw[hP.out,HB.out];simp[HSEE.out]
      ·rw[←List.append_assoc];exact hI2
      ·rw[hP.out,HB.out] at h;simp[HSEE.out] at h
      ·refine Keep.trans (hK.out.ext_ ?_) HK2.out
       repeat (first|exact hx|exact Ext.refl _|(refine Ext.set_ ?_ (by simp;omega) _)|(refine Ext.alloc_ ?_ _)|(refine Ext.drew_ ?_)|(refine Ext.drewN_ ?_ _))
     | true =>
      have HSEE:=Lib.hid hsee
      go_wp2_with (first
       | (go_at_call 56;refine (toHead_yes _ hq0 hq1 hd _).mono ?_;rintro e w1 ⟨rfl,hx⟩;have hxs:=hx.size))
      refine (HC.out (v0++v) ⟨k,wat M.W k⟩ _ ?_ ?_ HIN.out (by have h:=hP.out;rw[h];simp)).mono ?_
      ·refine HX.out _ _ _ hI.out ?_
       repeat (first|exact hx|exact Ext.refl _|(refine Ext.set_ ?_ (by simp;omega) _)|(refine Ext.alloc_ ?_ _)|(refine Ext.drew_ ?_)|(refine Ext.drewN_ ?_ _))
      ·refine hK.out.ext_ ?_
       repeat (first|exact hx|exact Ext.refl _|(refine Ext.set_ ?_ (by simp;omega) _)|(refine Ext.alloc_ ?_ _)|(refine Ext.drew_ ?_)|(refine Ext.drewN_ ?_ _))
      rintro e w2 ⟨he,hI2,hK2,hD2⟩
      rw[hsee] at he
      subst he
      have hq3:w2.cell? ⟨w1.heap.size,3,none⟩=some (.int .i64 (hSize (wat M.W k))):=hD2.cell (fun h=>by
       have h1:=HDX.out _ _ _ _ hI.out (by repeat (first|exact hx|exact Ext.refl _|(refine Ext.set_ ?_ (by simp;omega) _)|(refine Ext.alloc_ ?_ _)|(refine Ext.drew_ ?_)|(refine Ext.drewN_ ?_ _))) h
       simp only at h1
       omega) (by simp[go_sem])
      have HK2:=Lib.hid hK2
      have HI2:=Lib.hid hI2
      clear hK2 hD2 hsee hI2
      go_wp2
      go_roundw
      case rel =>
       refine⟨k+1+(hSize (wat M.W k)).toNat,v++[⟨k,wat M.W k⟩],by omega,by omega,?_,?_,?_,?_,?_⟩
       ·go_num
       ·rw[←List.append_assoc];exact HI2.out
       ·show part M.W a to=_
        rw[hP.out,HB.out];simp
       ·show (v++[_]).all see=true
        simp[hA.out,HSEE.out]
       ·refine Keep.trans (hK.out.ext_ ?_) HK2.out
        repeat (first|exact hx|exact Ext.refl _|(refine Ext.set_ ?_ (by simp;omega) _)|(refine Ext.alloc_ ?_ _)|(refine Ext.drew_ ?_)|(refine Ext.drewN_ ?_ _))
      case measure=>simp[intOf];omega
    ·have HB:=Lib.hid (part_bad M.W k to hlt (by rw[hd];simp;omega))
     go_wp2_with (go_at_call 56;refine (toHead_yes _ hq0 hq1 hd _).mono ?_;rintro e w1 ⟨rfl,hx⟩;have hxs:=hx.size)
     go_ret
     refine⟨v,?_,?_,fun h=>?_,?_⟩
     ·rw[hP.out,HB.out];rfl
     ·refine HX.out _ _ _ hI.out ?_
      repeat (first|exact hx|exact Ext.refl _|(refine Ext.set_ ?_ (by simp;omega) _)|(refine Ext.alloc_ ?_ _)|(refine Ext.drew_ ?_)|(refine Ext.drewN_ ?_ _))
     ·rw[hP.out,HB.out] at h;cases h
     ·refine hK.out.ext_ ?_
      repeat (first|exact hx|exact Ext.refl _|(refine Ext.set_ ?_ (by simp;omega) _)|(refine Ext.alloc_ ?_ _)|(refine Ext.drew_ ?_)|(refine Ext.drewN_ ?_ _))
  ·have HD:=Lib.hid (part_done M.W k to (by omega))
   go_wp2
   go_ret
   refine⟨v,?_,hI.out,fun _=>?_,hK.out⟩
   ·rw[hP.out,HD.out];simp[hA.out]
   ·rw[hP.out,HD.out];simp
end Go.Proofs.YtelhoppfidibiaaGreatDoor
