/- The words of all walks: what a call may leave behind; what the package-level errors hold. -/
import Derived.Test.YtelhoppfidibiaaGreatDoorProg
import Derived.WalkKit
import Derived.Deep.QuietTactic
import Derived.BigQuiet
import Derived.Lib.Hide
import Derived.Deep.RegionHeld3
set_option linter.unusedSimpArgs false
set_option linter.unusedVariables false
namespace Go.Proofs.YtelhoppfidibiaaGreatDoor
open Go.RowKit
abbrev Ext (w w':World):Prop:=Below w.heap.size w w'
theorem Ext.refl (w:World):Ext w w:=Below.refl _ _
theorem ext_drewN (w:World) (n:Nat):Ext w (w.drewN n):=⟨rfl,rfl,rfl,Nat.le_refl _,fun _ _=>rfl⟩
abbrev errV (a:Addr):Value:=.iface 261 (.pointer (some a))
abbrev GBound (w:World) (a:Addr):Prop:=w.cell? ⟨0,0,none⟩=some (errV a)
abbrev GShape (w:World) (a:Addr):Prop:=w.cell? ⟨3,0,none⟩=some (errV a)
abbrev GPlace (w:World) (a:Addr):Prop:=w.cell? ⟨1,0,none⟩=some (errV a)
abbrev GFull (w:World) (a:Addr):Prop:=w.cell? ⟨2,0,none⟩=some (errV a)
theorem cell_lt {w:World} {p:Addr} {v:Value} (h:w.cell? p=some v):p.block<w.heap.size:=by
 rcases Nat.lt_or_ge p.block w.heap.size with g|g
 ·exact g
 ·simp[World.cell?,Array.getElem?_eq_none g] at h
theorem Ext.cell_ {w w':World} (h:Ext w w') {p:Addr} {v:Value} (hc:w.cell? p=some v):w'.cell? p=some v:=by
 rw[Below.cell h (cell_lt hc)];exact hc
theorem Ext.trans_ {a b c:World} (h:Ext a b) (k:Ext b c):Ext a c:=Below.trans h (k.mono h.size)
theorem Ext.alloc_ {a b:World} (h:Ext a b) (o:Obj):Ext a (b.alloc o):=Below.alloc h h.size o
theorem Ext.drewN_ {a b:World} (h:Ext a b) (n:Nat):Ext a (b.drewN n):=h.trans_ (ext_drewN _ _)
theorem Ext.drew_ {a b:World} (h:Ext a b):Ext a b.drew:=Below.drew h
theorem Ext.set_ {a b:World} (h:Ext a b) {p:Addr} (hp:a.heap.size≤p.block) (u:Value):Ext a (b.setCell p u):=Below.setCell h hp u
theorem Ext.three {W w:World} (h:Ext W w):(∀ b o,b<W.heap.size→w.cell? ⟨b,o,none⟩=W.cell? ⟨b,o,none⟩)∧(∀ b o,b<W.heap.size→w.frozen? ⟨b,o,none⟩=W.frozen? ⟨b,o,none⟩)∧W.heap.size≤w.heap.size :=
 ⟨fun b o hb=>h.cell (p:=⟨b,o,none⟩) hb,fun b o hb=>h.frozen (p:=⟨b,o,none⟩) hb,h.size⟩
structure G3 (E:Nat→Addr) (w:World):Prop where
 bound:GBound w (E 1)
 shape:GShape w (E 2)
 place:GPlace w (E 4)
structure G4 (E:Nat→Addr) (w:World):Prop extends G3 E w where
 full:GFull w (E 5)
theorem G3.ext {E:Nat→Addr} {w w':World} (h:G3 E w) (hx:Ext w w'):G3 E w':=⟨hx.cell_ h.bound,hx.cell_ h.shape,hx.cell_ h.place⟩
theorem G4.ext {E:Nat→Addr} {w w':World} (h:G4 E w) (hx:Ext w w'):G4 E w':=⟨h.toG3.ext hx,hx.cell_ h.full⟩
theorem tk {P:Program} {ops:Array Oper} {Q:Exit→Act→World→Prop} {md:Region.Mode} {S:World→Prop} (i:Nat) (oi:Oper) (v:Value) {fuel:Nat} {listed:Array Bool} {a:Act} {w:World} (hi:ops[i]?=some oi)
  (hv:∀ w,S w→(execOp a.eval oi).run P w=.ok (.value v) w) (h:wpAnyH P md ops Q S fuel (listed.setIfInBounds i true) (a.put oi.dst v) w)
  (hs:Region.noSelect ops=true:=by kernel_rfl) (hf:Region.free md ops listed i=true:=by kernel_rfl) (hr:(Region.ready md ops listed).contains i=true:=by kernel_rfl)
  (hQ:∀ c a w,Q (.panic c) (a.put oi.dst v) w→Q (.panic c) a w:=by exact fun _ _ _ h=>h) (hw:Region.wanted oi (yielded ops a.tmps)=true:=by rfl) (hS:S w:=by assumption) :
  wpAnyH P md ops Q S (fuel+1) listed a w:=wpAnyH_take hi hs hf hr hQ (Or.inl ⟨hw,hv⟩) hS h
theorem tn {P:Program} {ops:Array Oper} {Q:Exit→Act→World→Prop} {md:Region.Mode} {S:World→Prop} (i:Nat) (oi:Oper) {fuel:Nat} {listed:Array Bool} {a:Act} {w:World} (hi:ops[i]?=some oi)
  (h:wpAnyH P md ops Q S fuel (listed.setIfInBounds i true) (a.put oi.dst undef) w)
  (hs:Region.noSelect ops=true:=by kernel_rfl) (hf:Region.free md ops listed i=true:=by kernel_rfl) (hr:(Region.ready md ops listed).contains i=true:=by kernel_rfl)
  (hQ:∀ c a w,Q (.panic c) (a.put oi.dst undef) w→Q (.panic c) a w:=by exact fun _ _ _ h=>h) (hw:Region.wanted oi (yielded ops a.tmps)=false:=by rfl) (hS:S w:=by assumption) :
  wpAnyH P md ops Q S (fuel+1) listed a w:=wpAnyH_take hi hs hf hr hQ (Or.inr ⟨hw,rfl⟩) hS h
theorem tkS:(∀ (a:Act) (v:Value),a.put none v=a)∧(∀ (a:Act) (d:Tmp) (v:Value),a.put (some d) v={a with tmps:=a.tmps.setIfInBounds d v})∧(∀ {α:Type} (l:List α) (i:Nat) (x:α),l.toArray.setIfInBounds i x=(l.set i x).toArray)∧(∀ {α:Type} (a:α) (l:List α) (b:α),(a::l).set 0 b=b::l)∧(∀ {α:Type} (a:α) (l:List α) (n:Nat) (b:α),(a::l).set (n+1) b=a::l.set n b) :=
 ⟨fun _ _=>rfl,fun _ _ _=>rfl,fun _ _ _=>List.setIfInBounds_toArray ..,fun _ _ _=>rfl,fun _ _ _ _=>rfl⟩
def intW (n:Int):Int:=(n*4)%18446744073709551616+1
def addrW (n:Int):Int:=(n*4+4)%18446744073709551616
def constW (n:Int):Int:=(n*4)%18446744073709551616+2
def headW (k a m s:Int):Int:=s*65536+m*16384+a*1024+k*4+3
def kindW (a:Int):Int:=a%4
def numW (a:Int):Int:=(if a<9223372036854775808 then a else a-18446744073709551616)/4
def placeW (a:Int):Int:=a/4-1
def hKind (a:Int):Int:=a/4%256
def hAge (a:Int):Int:=a/1024%16
def hMark (a:Int):Int:=a/16384%2
def hSize (a:Int):Int:=a/65536
def isHd (a:Int):Bool:=decide (a%4=3)&&decide (a/32768%2=0)&&decide (a/65536≤4096)
def smallB (n:Int):Bool:=decide (-2305843009213693952≤n)&&decide (n<2305843009213693952)
theorem isHd_iff (a:Int):isHd a=true↔a%4=3∧a/32768%2=0∧a/65536≤4096:=by
 simp[isHd,and_assoc]
theorem hd_in (a:Int) (h0:0≤a):0≤hKind a∧hKind a≤255∧0≤hAge a∧hAge a≤15∧0≤hMark a∧hMark a≤1∧0≤hSize a:=by
 unfold hKind hAge hMark hSize;omega
theorem headW_back (a:Int) (h:isHd a=true):headW (hKind a) (hAge a) (hMark a) (hSize a)=a:=by
 rw[isHd_iff] at h;unfold headW hKind hAge hMark hSize;omega
theorem headW_only (a:Int) (h:headW (hKind a) (hAge a) (hMark a) (hSize a%8192)=a) (hs:hSize a%8192≤4096):isHd a=true:=by
 rw[isHd_iff];unfold headW hKind hAge hMark hSize at *;omega
theorem headW_in (k a m s:Int) (hk:0≤k∧k≤255) (ha:0≤a∧a≤15) (hm:0≤m∧m≤1) (hs:0≤s∧s≤4096):0≤headW k a m s∧headW k a m s≤18446744073709551615:=by
 unfold headW;omega
theorem headW_hd (k a m s:Int) (hk:0≤k∧k≤255) (ha:0≤a∧a≤15) (hm:0≤m∧m≤1) (hs:0≤s∧s≤4096) :
  isHd (headW k a m s)=true∧hKind (headW k a m s)=k∧hAge (headW k a m s)=a∧hMark (headW k a m s)=m∧hSize (headW k a m s)=s:=by
 rw[isHd_iff];unfold headW hKind hAge hMark hSize;omega
theorem intW_wd (n:Int):0≤intW n∧intW n≤18446744073709551615∧intW n%4=1:=by unfold intW;omega
theorem constW_wd (n:Int):0≤constW n∧constW n≤18446744073709551615∧constW n%4=2:=by unfold constW;omega
theorem addrW_wd (n:Int):0≤addrW n∧addrW n≤18446744073709551615∧addrW n%4=0:=by unfold addrW;omega
theorem placeW_addrW (n:Int) (h:0≤n∧n≤1099511627776):placeW (addrW n)=n:=by unfold placeW addrW;omega
theorem wraps_u64 (n:Int) (h₀:0≤n) (h₁:n<2^64):IntKind.u64.wrap n=n:=by rw[IntKind.wrap_u64];omega
theorem and_u64 (i:Nat) (hi:i≤64) (x:Int) (h₀:0≤x) (h₁:x<2^64):bits .and .u64 x (2^i-1)=x%2^i :=
 bits_mask .u64 64 (by decide) wraps_u64 i hi x h₀ h₁
theorem or_u64 (i:Nat) (x y:Int) (hx₀:0≤x) (hx:x%2^i=0) (hx₁:x<2^64) (hy₀:0≤y) (hy:y<2^i) (hy₁:y<2^64):bits .or .u64 x y=x+y :=
 bits_join .u64 64 (by decide) wraps_u64 i x y hx₀ hx hx₁ hy₀ hy hy₁
theorem and3 (x:Int) (h₀:0≤x) (h₁:x≤18446744073709551615):bits .and .u64 x 3=x%4:=and_u64 2 (by decide) x h₀ (by omega)
theorem and255 (x:Int) (h₀:0≤x) (h₁:x≤18446744073709551615):bits .and .u64 x 255=x%256:=and_u64 8 (by decide) x h₀ (by omega)
theorem and15 (x:Int) (h₀:0≤x) (h₁:x≤18446744073709551615):bits .and .u64 x 15=x%16:=and_u64 4 (by decide) x h₀ (by omega)
theorem and1 (x:Int) (h₀:0≤x) (h₁:x≤18446744073709551615):bits .and .u64 x 1=x%2:=and_u64 1 (by decide) x h₀ (by omega)
theorem and8191 (x:Int) (h₀:0≤x) (h₁:x≤18446744073709551615):bits .and .u64 x 8191=x%8192:=and_u64 13 (by decide) x h₀ (by omega)
theorem or4 (x y:Int) (hx₀:0≤x) (hx:x%4=0) (hx₁:x≤18446744073709551615) (hy₀:0≤y) (hy:y<4):bits .or .u64 x y=x+y :=
 or_u64 2 x y hx₀ hx (by omega) hy₀ hy (by omega)
theorem bits_or_comm (x y:Int):bits .or .u64 x y=bits .or .u64 y x:=by
 simp only[bits]
 rw[BitVec.or_comm]
theorem kind_bits (a:Int) (h0:0≤a) (h1:a≤18446744073709551615):wrap64 (bits .and .u64 a 3)=kindW a:=by
 rw[and3 a h0 h1,IntWalk.wrap64_in _ (by omega)];rfl
theorem int_bits (a:Int):bits .or .u64 (IntKind.u64.wrap (IntKind.u64.wrap a*4)) 1=intW a:=by
 rw[IntKind.wrap_u64,IntKind.wrap_u64,or4 _ _ (by omega) (by omega) (by omega) (by omega) (by omega)];unfold intW;omega
theorem const_bits (a:Int):bits .or .u64 (IntKind.u64.wrap (IntKind.u64.wrap a*4)) 2=constW a:=by
 rw[IntKind.wrap_u64,IntKind.wrap_u64,or4 _ _ (by omega) (by omega) (by omega) (by omega) (by omega)];unfold constW;omega
theorem head_bits (k a m s:Int) (hk:0≤k∧k≤255) (ha:0≤a∧a≤15) (hm:0≤m∧m≤1) (hs:0≤s∧s≤4096) :
  bits .or .u64 (bits .or .u64 (bits .or .u64 (bits .or .u64 (k*4) (a*1024)) (m*16384)) (s*65536)) 3=headW k a m s:=by
 rw[bits_or_comm (k*4),or_u64 10 (a*1024) (k*4) (by omega) (by omega) (by omega) (by omega) (by omega) (by omega)]
 rw[bits_or_comm (a*1024+k*4),or_u64 14 (m*16384) _ (by omega) (by omega) (by omega) (by omega) (by omega) (by omega)]
 rw[bits_or_comm (m*16384+_),or_u64 16 (s*65536) _ (by omega) (by omega) (by omega) (by omega) (by omega) (by omega)]
 rw[or_u64 2 _ 3 (by omega) (by omega) (by omega) (by omega) (by omega) (by omega)]
 unfold headW;omega
theorem wf_i64 {a:Int} (h:(Lit.int .i64 a).wf=true):-9223372036854775808≤a∧a≤9223372036854775807:=by
 have h1:IntKind.i64.min=-9223372036854775808:=by decide
 have h2:IntKind.i64.max=9223372036854775807:=by decide
 simp only[Lit.wf,Bool.and_eq_true,decide_eq_true_eq,h1,h2] at h;exact h
theorem kind_any (a:Int) (h0:0≤a) (h1:a≤18446744073709551615) (w:World) :
  Calls Tryz.prog 103 #[.int .u64 a] w fun e w'=>e=.returned (.int .i64 (kindW a))∧w'=w:=by
 rw[←kind_bits a h0 h1]
 go_enter Tryz.func103,Tryz.ntmps103
 go_wp2
 go_ret
 exact⟨rfl,rfl⟩
theorem isSmall_any (a:Int) (w:World) :
  Calls Tryz.prog 108 #[.int .i64 a] w fun e w'=>e=.returned (.bool (smallB a))∧w'=w:=by
 by_cases h:-2305843009213693952≤a
 ·have e:smallB a=decide (a<2305843009213693952):=by simp[smallB,h]
  rw[e]
  go_enter Tryz.func108,Tryz.ntmps108
  go_wp2
  go_ret
  exact⟨rfl,rfl⟩
 ·have e:smallB a=false:=by simp[smallB,h]
  rw[e]
  go_enter Tryz.func108,Tryz.ntmps108
  go_wp2
  go_ret
  exact⟨rfl,rfl⟩
theorem int_any (a:Int) (w:World) :
  Calls Tryz.prog 109 #[.int .i64 a] w fun e w'=>e=.returned (.int .u64 (intW a))∧w'=w:=by
 rw[←int_bits]
 go_enter Tryz.func109,Tryz.ntmps109
 go_wp2
 go_ret
 exact⟨rfl,rfl⟩
theorem place_any (a:Int) (h0:0≤a) (h1:a≤18446744073709551615) (w:World) :
  Calls Tryz.prog 104 #[.int .u64 a] w fun e w'=>e=.returned (.int .i64 (placeW a))∧w'=w:=by
 go_enter Tryz.func104,Tryz.ntmps104
 go_wp2
 go_ret
 exact⟨rfl,rfl⟩
theorem addr_bits (a:Int):IntKind.u64.wrap (IntKind.u64.wrap (wrap64 (a+1))*4)=addrW a:=by
 rw[IntKind.wrap_u64,IntKind.wrap_u64];unfold wrap64 addrW;omega
theorem addr_any (a:Int) (w:World) :
  Calls Tryz.prog 43 #[.int .i64 a] w fun e w'=>e=.returned (.int .u64 (addrW a))∧w'=w:=by
 rw[←addr_bits]
 go_enter Tryz.func43,Tryz.ntmps43
 go_wp2
 go_ret
 exact⟨rfl,rfl⟩
theorem const_any (a:Int) (w:World) :
  Calls Tryz.prog 39 #[.int .i64 a] w fun e w'=>e=.returned (.int .u64 (constW a))∧w'=w:=by
 rw[←const_bits]
 go_enter Tryz.func39,Tryz.ntmps39
 go_wp2
 go_ret
 exact⟨rfl,rfl⟩
theorem in_yes (a b:Int) (h:0≤a∧a≤b) (w:World):Calls Tryz.prog 148 #[.int .i64 a,.int .i64 b] w fun e w'=>e=.returned (.bool true)∧w'=w:=by
 obtain⟨h1,h2⟩:=h
 go_enter Tryz.func148,Tryz.ntmps148
 go_wp2
 go_ret
 exact⟨by simp,rfl⟩
theorem in_no (a b:Int) (h:¬(0≤a∧a≤b)) (w:World):Calls Tryz.prog 148 #[.int .i64 a,.int .i64 b] w fun e w'=>e=.returned (.bool false)∧w'=w:=by
 by_cases h1:0≤a
 ·have h2:b<a:=by omega
  clear h
  go_enter Tryz.func148,Tryz.ntmps148
  go_wp2
  go_ret
  exact⟨by simp[h2],rfl⟩
 ·clear h
  go_enter Tryz.func148,Tryz.ntmps148
  go_wp2
  go_ret
  exact⟨rfl,rfl⟩
def inB (a b:Int):Bool:=decide (0≤a∧a≤b)
theorem inB_true {a b:Int}:inB a b=true↔0≤a∧a≤b:=by simp[inB]
theorem inB_false {a b:Int}:inB a b=false↔¬(0≤a∧a≤b):=by simp[inB]
theorem in_any (a b:Int) (w:World):Calls Tryz.prog 148 #[.int .i64 a,.int .i64 b] w fun e w'=>e=.returned (.bool (inB a b))∧w'=w:=by
 by_cases h:0≤a∧a≤b
 ·rw[inB_true.2 h];exact in_yes a b h w
 ·rw[inB_false.2 h];exact in_no a b h w
theorem headWord_any (k a m s:Int) (hk:0≤k∧k≤255) (ha:0≤a∧a≤15) (hm:0≤m∧m≤1) (hs:0≤s∧s≤4096) (w:World) :
  Calls Tryz.prog 88 #[.agg #[.int .i64 k,.int .i64 a,.int .i64 m,.int .i64 s]] w fun e w'=>e=.returned (.int .u64 (headW k a m s))∧Ext w w':=by
 rw[←head_bits k a m s hk ha hm hs]
 obtain⟨hk0,hk1⟩:=hk
 obtain⟨ha0,ha1⟩:=ha
 obtain⟨hm0,hm1⟩:=hm
 obtain⟨hs0,hs1⟩:=hs
 go_enter Tryz.func88,Tryz.ntmps88
 go_wp2
 go_ret
 exact⟨rfl,(Below.refl _ _).alloc (Nat.le_refl _) _⟩
end Go.Proofs.YtelhoppfidibiaaGreatDoor
