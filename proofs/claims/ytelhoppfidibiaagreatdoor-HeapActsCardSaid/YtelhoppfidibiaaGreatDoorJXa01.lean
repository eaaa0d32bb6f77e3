/- The words of all walks: what a call may leave behind; what the package-level errors hold. -/
import Derived.Test.YtelhoppfidibiaaGreatDoorProg
import Derived.WalkKit
import Derived.BigQuiet
import Derived.Lib.Hide
import Derived.Deep.RegionHeld3
set_option linter.unusedSimpArgs false
set_option linter.unusedVariables false
namespace Go.Proofs.YtelhoppfidibiaaGreatDoor
open Go.RowKit
open Go.Proofs.Tryz renaming prog→Za
abbrev A0 (w w':World):Prop:=Below w.heap.size w w'
theorem A0.refl (w:World):A0 w w:=Below.refl _ _
theorem Y0 (w:World) (n:Nat):A0 w (w.drewN n):=⟨rfl,rfl,rfl,Nat.le_refl _,fun _ _=>rfl⟩
abbrev E0 (a:Addr):Value:=.iface 261 (.pointer (some a))
abbrev A1o (w:World) (a:Addr):Prop:=w.cell? ⟨0,0,none⟩=some (E0 a)
abbrev A0d (w:World) (a:Addr):Prop:=w.cell? ⟨3,0,none⟩=some (E0 a)
abbrev B0c (w:World) (a:Addr):Prop:=w.cell? ⟨1,0,none⟩=some (E0 a)
abbrev D3p (w:World) (a:Addr):Prop:=w.cell? ⟨2,0,none⟩=some (E0 a)
theorem B9 {w:World} {p:Addr} {v:Value} (h:w.cell? p=some v):p.block<w.heap.size:=by
 rcases Nat.lt_or_ge p.block w.heap.size with g|g
 ·exact g
 ·simp[World.cell?,Array.getElem?_eq_none g] at h
theorem A0.cell_ {w w':World} (h:A0 w w') {p:Addr} {v:Value} (hc:w.cell? p=some v):w'.cell? p=some v:=by
 rw[Below.cell h (B9 hc)];exact hc
theorem A0.trans_ {a b c:World} (h:A0 a b) (k:A0 b c):A0 a c:=Below.trans h (k.mono h.size)
theorem A0.alloc_ {a b:World} (h:A0 a b) (o:Obj):A0 a (b.alloc o):=Below.alloc h h.size o
theorem A0.drewN_ {a b:World} (h:A0 a b) (n:Nat):A0 a (b.drewN n):=h.trans_ (Y0 _ _)
theorem A0.drew_ {a b:World} (h:A0 a b):A0 a b.drew:=Below.drew h
theorem A0.set_ {a b:World} (h:A0 a b) {p:Addr} (hp:a.heap.size≤p.block) (u:Value):A0 a (b.setCell p u):=Below.setCell h hp u
theorem A0.three {W w:World} (h:A0 W w):(∀ b o,b<W.heap.size→w.cell? ⟨b,o,none⟩=W.cell? ⟨b,o,none⟩)∧(∀ b o,b<W.heap.size→w.frozen? ⟨b,o,none⟩=W.frozen? ⟨b,o,none⟩)∧W.heap.size≤w.heap.size :=
 ⟨fun b o hb=>h.cell (p:=⟨b,o,none⟩) hb,fun b o hb=>h.frozen (p:=⟨b,o,none⟩) hb,h.size⟩
structure G3 (E:Nat→Addr) (w:World):Prop where
 bound:A1o w (E 1)
 shape:A0d w (E 2)
 place:B0c w (E 4)
structure G4 (E:Nat→Addr) (w:World):Prop extends G3 E w where
 full:D3p w (E 5)
theorem G3.ext {E:Nat→Addr} {w w':World} (h:G3 E w) (hx:A0 w w'):G3 E w':=⟨hx.cell_ h.bound,hx.cell_ h.shape,hx.cell_ h.place⟩
theorem G4.ext {E:Nat→Addr} {w w':World} (h:G4 E w) (hx:A0 w w'):G4 E w':=⟨h.toG3.ext hx,hx.cell_ h.full⟩
theorem tk {P:Program} {ops:Array Oper} {Q:Exit→Act→World→Prop} {md:Region.Mode} {S:World→Prop} (i:Nat) (oi:Oper) (v:Value) {fuel:Nat} {listed:Array Bool} {a:Act} {w:World} (hi:ops[i]?=some oi)
  (hv:∀ w,S w→(execOp a.eval oi).run P w=.ok (.value v) w) (h:wpAnyH P md ops Q S fuel (listed.setIfInBounds i true) (a.put oi.dst v) w)
  (hs:Region.noSelect ops=true:=by kernel_rfl) (hf:Region.free md ops listed i=true:=by kernel_rfl) (hr:(Region.ready md ops listed).contains i=true:=by kernel_rfl)
  (hQ:∀ c a w,Q (.panic c) (a.put oi.dst v) w→Q (.panic c) a w:=by exact fun _ _ _ h=>h) (hw:Region.wanted oi (yielded ops a.tmps)=true:=by rfl) (hS:S w:=by assumption) :
  wpAnyH P md ops Q S (fuel+1) listed a w:=wpAnyH_take hi hs hf hr hQ (Or.inl ⟨hw,hv⟩) hS h
theorem tJ {P : Program} {ops : Array Oper} {Q : Exit → Act → World → Prop} {md : Region.Mode} {S : World → Prop} (i : Nat) (d : Tmp) {op : Op} {ty : TypeId} {pos : String} {af : Array Edge} {gd : Option (Nat × Bool)} {v : Value} {fuel : Nat} {listed : Array Bool} {a : Act} {w : World} (hi : ops[i]? = some ⟨some d, op, ty, pos, af, gd⟩)
    (h : wpAnyH P md ops Q S fuel (listed.setIfInBounds i true) (a.put (some d) v) w)
    (hv : ∀ w, S w → (execOp a.eval ⟨some d, op, ty, pos, af, gd⟩).run P w = .ok (.value v) w := by intro w h; (try dsimp only at h); go_simp; try with_reducible rfl)
    (hs : Region.noSelect ops = true := by kernel_rfl) (hf : Region.free md ops listed i = true := by kernel_rfl) (hr : (Region.ready md ops listed).contains i = true := by kernel_rfl)
    (hQ : ∀ c a w, Q (.panic c) (a.put (some d) v) w → Q (.panic c) a w := by exact fun _ _ _ h => h) (hw : Region.wanted ⟨some d, op, ty, pos, af, gd⟩ (yielded ops a.tmps) = true := by rfl) (hS : S w := by assumption) :
    wpAnyH P md ops Q S (fuel + 1) listed a w := tk i ⟨some d, op, ty, pos, af, gd⟩ v hi hv h hs hf hr hQ hw hS
theorem eX {a b : World} (h : A0 a b := by repeat (first | exact A0.refl _ | (refine A0.alloc_ ?_ _) | (refine A0.drew_ ?_) | (refine A0.drewN_ ?_ _))) : A0 a b := h
theorem Hz {p : Prop} (h : p) : Hid p := h
theorem tn {P:Program} {ops:Array Oper} {Q:Exit→Act→World→Prop} {md:Region.Mode} {S:World→Prop} (i:Nat) (oi:Oper) {fuel:Nat} {listed:Array Bool} {a:Act} {w:World} (hi:ops[i]?=some oi)
  (h:wpAnyH P md ops Q S fuel (listed.setIfInBounds i true) (a.put oi.dst undef) w)
  (hs:Region.noSelect ops=true:=by kernel_rfl) (hf:Region.free md ops listed i=true:=by kernel_rfl) (hr:(Region.ready md ops listed).contains i=true:=by kernel_rfl)
  (hQ:∀ c a w,Q (.panic c) (a.put oi.dst undef) w→Q (.panic c) a w:=by exact fun _ _ _ h=>h) (hw:Region.wanted oi (yielded ops a.tmps)=false:=by rfl) (hS:S w:=by assumption) :
  wpAnyH P md ops Q S (fuel+1) listed a w:=wpAnyH_take hi hs hf hr hQ (Or.inr ⟨hw,rfl⟩) hS h
theorem A5:(∀ (a:Act) (v:Value),a.put none v=a)∧(∀ (a:Act) (d:Tmp) (v:Value),a.put (some d) v={a with tmps:=a.tmps.setIfInBounds d v})∧(∀ {α:Type} (l:List α) (i:Nat) (x:α),l.toArray.setIfInBounds i x=(l.set i x).toArray)∧(∀ {α:Type} (a:α) (l:List α) (b:α),(a::l).set 0 b=b::l)∧(∀ {α:Type} (a:α) (l:List α) (n:Nat) (b:α),(a::l).set (n+1) b=a::l.set n b) :=
 ⟨fun _ _=>rfl,fun _ _ _=>rfl,fun _ _ _=>List.setIfInBounds_toArray ..,fun _ _ _=>rfl,fun _ _ _ _=>rfl⟩
def P6 (n:Int):Int:=(n*4)%18446744073709551616+1
def D3 (n:Int):Int:=(n*4+4)%18446744073709551616
def P3 (n:Int):Int:=(n*4)%18446744073709551616+2
def J7 (k a m s:Int):Int:=s*65536+m*16384+a*1024+k*4+3
def C7 (a:Int):Int:=a%4
def A2l (a:Int):Int:=(if a<9223372036854775808 then a else a-18446744073709551616)/4
def C9 (a:Int):Int:=a/4-1
def B3 (a:Int):Int:=a/4%256
def F4 (a:Int):Int:=a/1024%16
def G5 (a:Int):Int:=a/16384%2
def B5 (a:Int):Int:=a/65536
def P7 (a:Int):Bool:=decide (a%4=3)&&decide (a/32768%2=0)&&decide (a/65536≤4096)
def U2 (n:Int):Bool:=decide (-2305843009213693952≤n)&&decide (n<2305843009213693952)
theorem A1v (a:Int):P7 a=true↔a%4=3∧a/32768%2=0∧a/65536≤4096:=by
 simp[P7,and_assoc]
theorem Z9 (a:Int) (h0:0≤a):0≤B3 a∧B3 a≤255∧0≤F4 a∧F4 a≤15∧0≤G5 a∧G5 a≤1∧0≤B5 a:=by
 unfold B3 F4 G5 B5;omega
theorem E2a (a:Int) (h:P7 a=true):J7 (B3 a) (F4 a) (G5 a) (B5 a)=a:=by
 rw[A1v] at h;unfold J7 B3 F4 G5 B5;omega
theorem E2c (a:Int) (h:J7 (B3 a) (F4 a) (G5 a) (B5 a%8192)=a) (hs:B5 a%8192≤4096):P7 a=true:=by
 rw[A1v];unfold J7 B3 F4 G5 B5 at *;omega
theorem E2b (k a m s:Int) (hk:0≤k∧k≤255) (ha:0≤a∧a≤15) (hm:0≤m∧m≤1) (hs:0≤s∧s≤4096):0≤J7 k a m s∧J7 k a m s≤18446744073709551615:=by
 unfold J7;omega
theorem A1t (k a m s:Int) (hk:0≤k∧k≤255) (ha:0≤a∧a≤15) (hm:0≤m∧m≤1) (hs:0≤s∧s≤4096) :
  P7 (J7 k a m s)=true∧B3 (J7 k a m s)=k∧F4 (J7 k a m s)=a∧G5 (J7 k a m s)=m∧B5 (J7 k a m s)=s:=by
 rw[A1v];unfold J7 B3 F4 G5 B5;omega
theorem B0o (n:Int):0≤P6 n∧P6 n≤18446744073709551615∧P6 n%4=1:=by unfold P6;omega
theorem B1p (n:Int):0≤P3 n∧P3 n≤18446744073709551615∧P3 n%4=2:=by unfold P3;omega
theorem A5v (n:Int):0≤D3 n∧D3 n≤18446744073709551615∧D3 n%4=0:=by unfold D3;omega
theorem E8e (n:Int) (h:U2 n=true):A2l (P6 n)=n:=by
 simp only[U2,Bool.and_eq_true,decide_eq_true_eq] at h;unfold A2l P6;split<;>omega
theorem B2g (n:Int) (h:0≤n∧n≤1099511627776):C9 (D3 n)=n:=by unfold C9 D3;omega
theorem B8y (n:Int) (h₀:0≤n) (h₁:n<2^64):IntKind.u64.wrap n=n:=by rw[IntKind.wrap_u64];omega
theorem B3d (i:Nat) (hi:i≤64) (x:Int) (h₀:0≤x) (h₁:x<2^64):bits .and .u64 x (2^i-1)=x%2^i :=
 bits_mask .u64 64 (by decide) B8y i hi x h₀ h₁
theorem B2e (i:Nat) (x y:Int) (hx₀:0≤x) (hx:x%2^i=0) (hx₁:x<2^64) (hy₀:0≤y) (hy:y<2^i) (hy₁:y<2^64):bits .or .u64 x y=x+y :=
 bits_join .u64 64 (by decide) B8y i x y hx₀ hx hx₁ hy₀ hy hy₁
theorem D5c (x:Int) (h₀:0≤x) (h₁:x≤18446744073709551615):bits .and .u64 x 3=x%4:=B3d 2 (by decide) x h₀ (by omega)
theorem D5b (x:Int) (h₀:0≤x) (h₁:x≤18446744073709551615):bits .and .u64 x 255=x%256:=B3d 8 (by decide) x h₀ (by omega)
theorem D5a (x:Int) (h₀:0≤x) (h₁:x≤18446744073709551615):bits .and .u64 x 15=x%16:=B3d 4 (by decide) x h₀ (by omega)
theorem D4z (x:Int) (h₀:0≤x) (h₁:x≤18446744073709551615):bits .and .u64 x 1=x%2:=B3d 1 (by decide) x h₀ (by omega)
theorem D5e (x:Int) (h₀:0≤x) (h₁:x≤18446744073709551615):bits .and .u64 x 8191=x%8192:=B3d 13 (by decide) x h₀ (by omega)
theorem or4 (x y:Int) (hx₀:0≤x) (hx:x%4=0) (hx₁:x≤18446744073709551615) (hy₀:0≤y) (hy:y<4):bits .or .u64 x y=x+y :=
 B2e 2 x y hx₀ hx (by omega) hy₀ hy (by omega)
theorem B5u (x y:Int):bits .or .u64 x y=bits .or .u64 y x:=by
 simp only[bits];rw[BitVec.or_comm]
theorem E4l (a:Int) (h0:0≤a) (h1:a≤18446744073709551615):wrap64 (bits .and .u64 a 3)=C7 a:=by
 rw[D5c a h0 h1,IntWalk.wrap64_in _ (by omega)];rfl
theorem E3t (a:Int):bits .or .u64 (IntKind.u64.wrap (IntKind.u64.wrap a*4)) 1=P6 a:=by
 rw[IntKind.wrap_u64,IntKind.wrap_u64,or4 _ _ (by omega) (by omega) (by omega) (by omega) (by omega)];unfold P6;omega
theorem D8c (a:Int):bits .or .u64 (IntKind.u64.wrap (IntKind.u64.wrap a*4)) 2=P3 a:=by
 rw[IntKind.wrap_u64,IntKind.wrap_u64,or4 _ _ (by omega) (by omega) (by omega) (by omega) (by omega)];unfold P3;omega
theorem E2d (k a m s:Int) (hk:0≤k∧k≤255) (ha:0≤a∧a≤15) (hm:0≤m∧m≤1) (hs:0≤s∧s≤4096) :
  bits .or .u64 (bits .or .u64 (bits .or .u64 (bits .or .u64 (k*4) (a*1024)) (m*16384)) (s*65536)) 3=J7 k a m s:=by
 rw[B5u (k*4),B2e 10 (a*1024) (k*4) (by omega) (by omega) (by omega) (by omega) (by omega) (by omega)];rw[B5u (a*1024+k*4),B2e 14 (m*16384) _ (by omega) (by omega) (by omega) (by omega) (by omega) (by omega)];rw[B5u (m*16384+_),B2e 16 (s*65536) _ (by omega) (by omega) (by omega) (by omega) (by omega) (by omega)];rw[B2e 2 _ 3 (by omega) (by omega) (by omega) (by omega) (by omega) (by omega)];unfold J7;omega
theorem B8t {a:Int} (h:(Lit.int .i64 a).wf=true):-9223372036854775808≤a∧a≤9223372036854775807:=by
 have h1:IntKind.i64.min=-9223372036854775808:=by decide
 have h2:IntKind.i64.max=9223372036854775807:=by decide
 simp only[Lit.wf,Bool.and_eq_true,decide_eq_true_eq,h1,h2] at h;exact h
theorem O8 (a:Int) (h0:0≤a) (h1:a≤18446744073709551615) (w:World) :
  Calls Za 103 #[.int .u64 a] w fun e w'=>e=.returned (.int .i64 (C7 a))∧w'=w:=by
 rw[←E4l a h0 h1]
 go_enter Tryz.func103,Tryz.ntmps103
 go_wp2;go_ret;exact⟨rfl,rfl⟩
theorem E3x (a:Int) (w:World) :
  Calls Za 108 #[.int .i64 a] w fun e w'=>e=.returned (.bool (U2 a))∧w'=w:=by
 by_cases h:-2305843009213693952≤a
 ·have e:U2 a=decide (a<2305843009213693952):=by simp[U2,h]
  rw[e]
  go_enter Tryz.func108,Tryz.ntmps108
  go_wp2;go_ret;exact⟨rfl,rfl⟩
 ·have e:U2 a=false:=by simp[U2,h]
  rw[e]
  go_enter Tryz.func108,Tryz.ntmps108
  go_wp2;go_ret;exact⟨rfl,rfl⟩
theorem E3s (a:Int) (w:World) :
  Calls Za 109 #[.int .i64 a] w fun e w'=>e=.returned (.int .u64 (P6 a))∧w'=w:=by
 rw[←E3t]
 go_enter Tryz.func109,Tryz.ntmps109
 go_wp2;go_ret;exact⟨rfl,rfl⟩
theorem A0h (a:Int) (h0:0≤a) (h1:a≤18446744073709551615) (w:World) :
  Calls Za 104 #[.int .u64 a] w fun e w'=>e=.returned (.int .i64 (C9 a))∧w'=w:=by
 go_enter Tryz.func104,Tryz.ntmps104
 go_wp2;go_ret;exact⟨rfl,rfl⟩
theorem D4u (a:Int):IntKind.u64.wrap (IntKind.u64.wrap (wrap64 (a+1))*4)=D3 a:=by
 rw[IntKind.wrap_u64,IntKind.wrap_u64];unfold wrap64 D3;omega
theorem B0g (a:Int) (w:World) :
  Calls Za 43 #[.int .i64 a] w fun e w'=>e=.returned (.int .u64 (D3 a))∧w'=w:=by
 rw[←D4u]
 go_enter Tryz.func43,Tryz.ntmps43
 go_wp2;go_ret;exact⟨rfl,rfl⟩
theorem B3n (a:Int) (w:World) :
  Calls Za 39 #[.int .i64 a] w fun e w'=>e=.returned (.int .u64 (P3 a))∧w'=w:=by
 rw[←D8c]
 go_enter Tryz.func39,Tryz.ntmps39
 go_wp2;go_ret;exact⟨rfl,rfl⟩
theorem E3j (a b:Int) (h:0≤a∧a≤b) (w:World):Calls Za 148 #[.int .i64 a,.int .i64 b] w fun e w'=>e=.returned (.bool true)∧w'=w:=by
 obtain⟨h1,h2⟩:=h
 go_enter Tryz.func148,Tryz.ntmps148
 go_wp2;go_ret;exact⟨by simp,rfl⟩
theorem E3i (a b:Int) (h:¬(0≤a∧a≤b)) (w:World):Calls Za 148 #[.int .i64 a,.int .i64 b] w fun e w'=>e=.returned (.bool false)∧w'=w:=by
 by_cases h1:0≤a
 ·have h2:b<a:=by omega
  clear h
  go_enter Tryz.func148,Tryz.ntmps148
  go_wp2;go_ret;exact⟨by simp[h2],rfl⟩
 ·clear h
  go_enter Tryz.func148,Tryz.ntmps148
  go_wp2;go_ret;exact⟨rfl,rfl⟩
def R1 (a b:Int):Bool:=decide (0≤a∧a≤b)
theorem A4u {a b:Int}:R1 a b=true↔0≤a∧a≤b:=by simp[R1]
theorem E3g {a b:Int}:R1 a b=false↔¬(0≤a∧a≤b):=by simp[R1]
theorem C6t (a b:Int) (w:World):Calls Za 148 #[.int .i64 a,.int .i64 b] w fun e w'=>e=.returned (.bool (R1 a b))∧w'=w:=by
 by_cases h:0≤a∧a≤b
 ·rw[A4u.2 h];exact E3j a b h w
 ·rw[E3g.2 h];exact E3i a b h w
theorem B1u (k a m s:Int) (hk:0≤k∧k≤255) (ha:0≤a∧a≤15) (hm:0≤m∧m≤1) (hs:0≤s∧s≤4096) (w:World) :
  Calls Za 88 #[.agg #[.int .i64 k,.int .i64 a,.int .i64 m,.int .i64 s]] w fun e w'=>e=.returned (.int .u64 (J7 k a m s))∧A0 w w':=by
 rw[←E2d k a m s hk ha hm hs];obtain⟨hk0,hk1⟩:=hk;obtain⟨ha0,ha1⟩:=ha;obtain⟨hm0,hm1⟩:=hm;obtain⟨hs0,hs1⟩:=hs
 go_enter Tryz.func88,Tryz.ntmps88
 go_wp2;go_ret;exact⟨rfl,(Below.refl _ _).alloc (Nat.le_refl _) _⟩
end Go.Proofs.YtelhoppfidibiaaGreatDoor
