/- The library's contracts of texts, laid over this program. -/
import Derived.Shelf.Strings.BuilderK
import Derived.Shelf.Strconv.Itoa4
import Derived.Shelf.Strings.Repeat
import Derived.Test.YtelhoppfidibiaaGreatDoorJXa25
import Derived.Test.YtelhoppfidibiaaGreatDoorJXa24
set_option linter.unusedSimpArgs false
set_option linter.unusedVariables false
set_option maxHeartbeats 4000000
set_option maxRecDepth 100000
namespace Go.Proofs.YtelhoppfidibiaaGreatDoor
open IntWalk renaming i64_in→Za
open List renaming getElem?_eq_none→Zb,length_replicate→Zc
open Nat renaming le_refl→Zd,mul_one→Ze,zero_le→Zf
open Go.Proofs.Tryz renaming prog→Zg
open Go.Shelf Go.RowKit
def A9w:Ren where
 f:=fun x=>match x with
  | 129=>170
  | 166=>54
  | 169=>62
  | 171=>57
  | 173=>58
  | 212=>84
  | 240=>113
  | 243=>116
  | 246=>117
  | 263=>130
  | 264=>131
  | 276=>147
  | 283=>149
  | 284=>150
  | 285=>151
  | 286=>152
  | 317=>171
  | 318=>172
  | 319=>173
  | 320=>174
  | 337=>182
  | 338=>183
  | n=>n
 t:=fun x=>match x with
  | 0=>0
  | 2=>2
  | 3=>3
  | 4=>4
  | 5=>5
  | 9=>9
  | 20=>20
  | 37=>107
  | 46=>143
  | 51=>192
  | 53=>78
  | 70=>106
  | 72=>109
  | 75=>26
  | 76=>33
  | 80=>42
  | 109=>144
  | 127=>177
  | 146=>193
  | 148=>195
  | 164=>216
  | 171=>218
  | 173=>220
  | 212=>245
  | 213=>246
  | 232=>259
  | 233=>260
  | n=>n
 g:=fun x=>match x with
  | 17=>8
  | 18=>9
  | 19=>10
  | n=>n
theorem F9a:Lays.n166 Zg A9w:={
 mixed:=by kernel_rfl,f166:=Tryz.func54.trans (congrArg some (by kernel_rfl)),f240:=Tryz.func113.trans (congrArg some (by kernel_rfl)),
 f276:=Tryz.func147.trans (congrArg some (by kernel_rfl)),t0:=Tryz.underlying0,a0:=Tryz.isAgg0,z0:=Tryz.sizeOf0,v0:=Tryz.zeroValue0,t3:=Tryz.underlying3,
 a3:=Tryz.isAgg3,z3:=Tryz.sizeOf3,v3:=Tryz.zeroValue3,t4:=Tryz.underlying4,a4:=Tryz.isAgg4,z4:=Tryz.sizeOf4,v4:=Tryz.zeroValue4,t9:=Tryz.underlying9,
 a9:=Tryz.isAgg9,z9:=Tryz.sizeOf9,v9:=Tryz.zeroValue9,t20:=Tryz.underlying20,a20:=Tryz.isAgg20,z20:=Tryz.sizeOf20,
 v20:=Tryz.zeroValue20,t37:=Tryz.underlying107,a37:=Tryz.isAgg107,z37:=Tryz.sizeOf107,v37:=Tryz.zeroValue107,t70:=Tryz.underlying106,
 a70:=Tryz.isAgg106,z70:=Tryz.sizeOf106,v70:=Tryz.zeroValue106,t72:=Tryz.underlying109,a72:=Tryz.isAgg109,
 z72:=Tryz.sizeOf109,v72:=Tryz.zeroValue109,t75:=Tryz.underlying26,a75:=Tryz.isAgg26,z75:=Tryz.sizeOf26,v75:=Tryz.zeroValue26,
 t164:=Tryz.underlying216,a164:=Tryz.isAgg216,z164:=Tryz.sizeOf216,v164:=Tryz.zeroValue216}
theorem F6n:Lays.n169 Zg A9w:={
 mixed:=by kernel_rfl,f169:=Tryz.func62.trans (congrArg some (by kernel_rfl)),t0:=Tryz.underlying0,a0:=Tryz.isAgg0,z0:=Tryz.sizeOf0,v0:=Tryz.zeroValue0,
 t3:=Tryz.underlying3,a3:=Tryz.isAgg3,z3:=Tryz.sizeOf3,v3:=Tryz.zeroValue3,t9:=Tryz.underlying9,a9:=Tryz.isAgg9,z9:=Tryz.sizeOf9,
 v9:=Tryz.zeroValue9,t37:=Tryz.underlying107,a37:=Tryz.isAgg107,z37:=Tryz.sizeOf107,v37:=Tryz.zeroValue107,t70:=Tryz.underlying106,
 a70:=Tryz.isAgg106,z70:=Tryz.sizeOf106,v70:=Tryz.zeroValue106,t72:=Tryz.underlying109,a72:=Tryz.isAgg109,
 z72:=Tryz.sizeOf109,v72:=Tryz.zeroValue109,t127:=Tryz.underlying177,a127:=Tryz.isAgg177,z127:=Tryz.sizeOf177,v127:=Tryz.zeroValue177}
theorem E6z:Lays.n212 Zg A9w:={
 mixed:=by kernel_rfl,f212:=Tryz.func84.trans (congrArg some (by kernel_rfl)),f263:=Tryz.func130.trans (congrArg some (by kernel_rfl)),
 f264:=Tryz.func131.trans (congrArg some (by kernel_rfl)),t46:=Tryz.underlying143,a46:=Tryz.isAgg143,z46:=Tryz.sizeOf143,v46:=Tryz.zeroValue143,t51:=Tryz.underlying192,
 a51:=Tryz.isAgg192,z51:=Tryz.sizeOf192,v51:=Tryz.zeroValue192,t53:=Tryz.underlying78,a53:=Tryz.isAgg78,z53:=Tryz.sizeOf78,v53:=Tryz.zeroValue78,
 t146:=Tryz.underlying193,a146:=Tryz.isAgg193,z146:=Tryz.sizeOf193,v146:=Tryz.zeroValue193,t148:=Tryz.underlying195,
 a148:=Tryz.isAgg195,z148:=Tryz.sizeOf195,v148:=Tryz.zeroValue195}
theorem C7l:LaysM.n171 Zg A9w:={
 mixed:=by kernel_rfl,f129:=Tryz.func170.trans (congrArg some (by kernel_rfl)),f171:=Tryz.func57.trans (congrArg some (by kernel_rfl)),
 f243:=Tryz.func116.trans (congrArg some (by kernel_rfl)),f246:=Tryz.func117.trans (congrArg some (by kernel_rfl)),
 f283:=Tryz.func149.trans (congrArg some (by kernel_rfl)),f284:=Tryz.func150.trans (congrArg some (by kernel_rfl)),
 f285:=Tryz.func151.trans (congrArg some (by kernel_rfl)),f286:=Tryz.func152.trans (congrArg some (by kernel_rfl)),
 f317:=Tryz.func171.trans (congrArg some (by kernel_rfl)),f318:=Tryz.func172.trans (congrArg some (by kernel_rfl)),
 f319:=Tryz.func173.trans (congrArg some (by kernel_rfl)),f320:=Tryz.func174.trans (congrArg some (by kernel_rfl)),
 f337:=Tryz.func182.trans (congrArg some (by kernel_rfl)),f338:=Tryz.func183.trans (congrArg some (by kernel_rfl)),t0:=Tryz.underlying0,a0:=Tryz.isAgg0,
 z0:=Tryz.sizeOf0,v0:=Tryz.zeroValue0,t2:=Tryz.underlying2,a2:=Tryz.isAgg2,z2:=Tryz.sizeOf2,v2:=Tryz.zeroValue2,t3:=Tryz.underlying3,a3:=Tryz.isAgg3,
 z3:=Tryz.sizeOf3,v3:=Tryz.zeroValue3,t4:=Tryz.underlying4,a4:=Tryz.isAgg4,z4:=Tryz.sizeOf4,v4:=Tryz.zeroValue4,t5:=Tryz.underlying5,a5:=Tryz.isAgg5,
 z5:=Tryz.sizeOf5,v5:=Tryz.zeroValue5,t9:=Tryz.underlying9,a9:=Tryz.isAgg9,z9:=Tryz.sizeOf9,v9:=Tryz.zeroValue9,t20:=Tryz.underlying20,
 a20:=Tryz.isAgg20,z20:=Tryz.sizeOf20,v20:=Tryz.zeroValue20,t37:=Tryz.underlying107,a37:=Tryz.isAgg107,z37:=Tryz.sizeOf107,
 v37:=Tryz.zeroValue107,t46:=Tryz.underlying143,a46:=Tryz.isAgg143,z46:=Tryz.sizeOf143,v46:=Tryz.zeroValue143,t51:=Tryz.underlying192,a51:=Tryz.isAgg192,
 z51:=Tryz.sizeOf192,v51:=Tryz.zeroValue192,t53:=Tryz.underlying78,a53:=Tryz.isAgg78,z53:=Tryz.sizeOf78,v53:=Tryz.zeroValue78,t171:=Tryz.underlying218,
 a171:=Tryz.isAgg218,z171:=Tryz.sizeOf218,v171:=Tryz.zeroValue218,t173:=Tryz.underlying220,a173:=Tryz.isAgg220,
 z173:=Tryz.sizeOf220,v173:=Tryz.zeroValue220,t212:=Tryz.underlying245,a212:=Tryz.isAgg245,z212:=Tryz.sizeOf245,
 v212:=Tryz.zeroValue245,t213:=Tryz.underlying246,a213:=Tryz.isAgg246,z213:=Tryz.sizeOf246,t232:=Tryz.underlying259,a232:=Tryz.isAgg259,
 z232:=Tryz.sizeOf259,v232:=Tryz.zeroValue259,t233:=Tryz.underlying260,a233:=Tryz.isAgg260,z233:=Tryz.sizeOf260,v233:=Tryz.zeroValue260,
 g17:=by kernel_rfl,g18:=by kernel_rfl,g19:=by kernel_rfl,i0:=by kernel_rfl,i2:=by kernel_rfl,i3:=by kernel_rfl,i4:=by kernel_rfl,i5:=by kernel_rfl,i9:=by kernel_rfl,i20:=by kernel_rfl,
 i37:=by kernel_rfl,i46:=by kernel_rfl,i51:=by kernel_rfl,i53:=by kernel_rfl,i171:=by kernel_rfl,i173:=by kernel_rfl,i212:=by kernel_rfl,i232:=by kernel_rfl,i233:=by kernel_rfl,m17:=by kernel_rfl,
 m18:=by kernel_rfl,m19:=by kernel_rfl}
theorem E0l:LaysM.n173 Zg A9w:={C7l with
 f173:=Tryz.func58.trans (congrArg some (by kernel_rfl))}
theorem C4d:Builder.Extra Zg A9w:={
 sizeBuilder:=by kernel_rfl,liesBuilder:=by kernel_rfl,t5:=Tryz.underlying5,a5:=Tryz.isAgg5,z5:=Tryz.sizeOf5,v5:=Tryz.zeroValue5,infoByte:=by kernel_rfl,
 cellsByte:=by kernel_rfl,sizeByte:=by kernel_rfl,neB5:=by decide}
def Bld (B b:Nat) (s:ByteArray) (w:World):Prop:=Lib.IsBuilderF 109 5 B b (Lib.strCells s) w
theorem F6k (a b:ByteArray):Lib.strCells (a++b)=Lib.strCells a++Lib.strCells b:=by
 simp[Lib.strCells_eq,Lib.byteCells]
theorem F9b (B b:Nat) (out s:ByteArray) (w:World) (h:Bld B b out w) (hl:out.size+s.size≤140737488355328) (hB:B≤w.heap.size) :
  Calls Zg 54 #[.pointer (some ⟨b,0,none⟩),.string s] w fun e w'=>e=.returned (.tuple #[.int .i64 s.size,.nilIface])∧Bld B b (out++s) w'∧Below B w w'∧Lib.OthersKept 5 (some b) w w':=by
 refine (Any.Builder_WriteString_k (ρ:=A9w) F9a C4d B b (Lib.strCells out) s w h (by rw[Lib.strCells_length];exact hl) hB).mono ?_;rintro e w' ⟨he,h1,h2,h3⟩;refine⟨he,?_,h2,h3⟩;unfold Bld;rw[F6k];exact Or.inr h1
theorem B0a (B b:Nat) (out s:ByteArray) (w:World) (h:Bld B b out w) (hl:out.size+s.size≤140737488355328) (hB:B≤w.heap.size) :
  Calls Zg 54 #[.pointer (some ⟨b,0,none⟩),.string s] w fun e w'=>∃ z:Int,e=.returned (.tuple #[.int .i64 z,.nilIface])∧Bld B b (out++s) w'∧Below B w w'∧Lib.OthersKept 5 (some b) w w' :=
 (F9b B b out s w h hl hB).mono fun _ _ h=>⟨_,h⟩
theorem F6o (B b:Nat) (s:ByteArray) (w:World) (h:Bld B b s w) (hB:B≤w.heap.size) :
  Calls Zg 62 #[.pointer (some ⟨b,0,none⟩)] w fun e w'=>e=.returned (.string s)∧Below B w w':=by
 refine (Any.Builder_String_any_k (ρ:=A9w) F6n C4d B b s.data.toList w h hB).mono ?_;rintro e w' ⟨he,h1,h2,h3⟩;exact⟨he,h2⟩
theorem E4a (n:Int) (h0:-9223372036854775808≤n) (h1:n≤9223372036854775807) (w:World) (htab:Lib.TabIs Zg w "internal/strconv.uint64pow10" .u64 Lib.pow10Tab) :
  Calls Zg 57 #[.int .i64 n] w fun e w'=>e=.returned (.string ⟨(Lib.itoa n).toArray⟩)∧∃ k os,w'=Sort.grow (w.drewN k) os:=Any.strconv_Itoa C7l n h0 h1 w htab
theorem E0m (n:Int) (h0:-9223372036854775808≤n) (h1:n≤9223372036854775807) (w:World) (htab:Lib.TabIs Zg w "internal/strconv.uint64pow10" .u64 Lib.pow10Tab) :
  Calls Zg 58 #[.int .i64 n,.int .i64 10] w fun e w'=>e=.returned (.string ⟨(Lib.itoa n).toArray⟩)∧∃ k os,w'=Sort.grow (w.drewN k) os:=Any.strconv_FormatInt_10 E0l n h0 h1 w htab
theorem E7a (x y:Nat) (hx:x<18446744073709551616) (hy:y<18446744073709551616) (w:World) :
  Calls Zg 84 #[.int .u64 x,.int .u64 y] w fun e w'=>e=.returned (.tuple #[.int .u64 ((x*y/18446744073709551616:Nat):Int),.int .u64 ((x*y%18446744073709551616:Nat):Int)])∧w'=w:=Any.bits_Mul E6z x y hx hy w
open Go.RowKit
theorem C8u (a hi:Int) (w:World):Calls Zg 83 #[.int .i64 a,.int .i64 hi] w fun e w'=>e=.returned (.bool (H0 a 1 hi))∧w'=w:=by
 by_cases h:1≤a
 ·have e:H0 a 1 hi=decide (a≤hi):=by simp[H0,h]
  rw[e]
  go_enter Tryz.func83,Tryz.ntmps83
  go_wp2;go_ret;exact⟨rfl,rfl⟩
 ·have e:H0 a 1 hi=false:=by simp[H0,h]
  rw[e]
  go_enter Tryz.func83,Tryz.ntmps83
  go_wp2;go_ret;exact⟨rfl,rfl⟩
def A1i (half old card:Int):Bool:=H0 half 1 65536&&H0 old 1 65536&&H0 card 1 1024
theorem E7u (half old card:Int) (h:A1i half old card=false) (w:World) (gb:Addr) (hG:A1o w gb) :
  Calls Zg 37 #[.int .i64 half,.int .i64 old,.int .i64 card] w fun e w'=>e=.returned (.tuple #[.pointer none,E0 gb])∧A0 w w':=by
 have h3:H0 half 1 65536=false∨(H0 half 1 65536=true∧H0 old 1 65536=false)∨(H0 half 1 65536=true∧H0 old 1 65536=true∧H0 card 1 1024=false):=by
  revert h;unfold A1i;cases H0 half 1 65536<;>cases H0 old 1 65536<;>cases H0 card 1 1024<;>simp
 clear h;rcases h3 with h1|⟨h1,h2⟩|⟨h1,h2,h3⟩
 all_goals
  go_enter Tryz.func37,Tryz.ntmps37
  go_wp2_with (go_at_call 83;refine (C8u _ _ _).mono ?_;rintro e w' ⟨rfl,rfl⟩)
  go_quiet (fail)
  go_wp2
  go_ret2
  exact⟨rfl,Y0 _ _⟩
def T3 (half old card:Int):A7:=⟨half,old,card,List.replicate (2*half+old).toNat 0,0,0,0,[],[],[],List.replicate ((old+card-1)/card).toNat false⟩
theorem C7a:(Zg.info? 78).map (fun i=>(i.zero,i.size,i.bytes))=some (some (.int .u64 0),1,8):=by kernel_rfl
theorem E3o:(Zg.info? 4).map (fun i=>(i.zero,i.size,i.bytes))=some (some (.bool false),1,1):=by kernel_rfl
theorem C3g:Zg.underlying 76=some (.slice 78):=by kernel_rfl
theorem D2w:Zg.underlying 64=some (.slice 4):=by kernel_rfl
def D3w (w:World) (M:A7) (e:Ending) (w':World):Prop :=
 ∃ b S,e=.returned (.tuple #[.pointer (some ⟨b,0,none⟩),.nilIface])∧B7 w' w.heap.size b 140 M S∧A0 w w'
theorem D0d {wb:World} (B:Nat) (half old card:Int) (t tI:TypeId) (n1 n2 gW gC:Nat) (hn1:n1=(2*half+old).toNat) (hn2:n2=((old+card-1)/card).toNat) (hB:B≤wb.heap.size) (hne:gW≠gC)
  (ho1:wb.ownsRow B 78 1 (.slice (some ⟨gW,0,none⟩) n1 n1) n1 (madeCells (Value.int .u64 0).cells (n1*1)).toList)
  (ho2:wb.ownsRow B 4 1 (.slice (some ⟨gC,0,none⟩) n2 n2) n2 (madeCells (Value.bool false).cells (n2*1)).toList) :
  B7 (wb.alloc (.cells #[.int .i64 half,.int .i64 old,.int .i64 card,.slice (some ⟨gW,0,none⟩) n1 n1,.int .i64 0,.int .i64 0,.int .i64 0,.slice none 0 0,.slice none 0 0,.slice none 0 0,.slice (some ⟨gC,0,none⟩) n2 n2] t)) B wb.heap.size tI (T3 half old card)
   ⟨(some ⟨gW,0,none⟩,n1),(none,0),(none,0),(none,0),(some ⟨gC,0,none⟩,n2)⟩:=by
 have e1:(madeCells (Value.int .u64 0).cells (n1*1)).toList=C5 (T3 half old card).W:=by
  rw[show (Value.int .u64 0).cells=#[Value.int .u64 0] from rfl,Ze,toList_madeCells_one];simp[C5,T3,hn1]
 have e2:(madeCells (Value.bool false).cells (n2*1)).toList=R7 (T3 half old card).cards:=by
  rw[show (Value.bool false).cells=#[Value.bool false] from rfl,Ze,toList_madeCells_one];simp[R7,T3,hn2]
 have l1:(T3 half old card).W.length=n1:=by simp[T3,hn1]
 have l2:(T3 half old card).cards.length=n2:=by simp[T3,hn2]
 have lt1:gW<wb.heap.size:=(ho1.lt gW rfl).2;have lt2:gC<wb.heap.size:=(ho2.lt gC rfl).2;have hc:∀ j v,(#[Value.int .i64 half,.int .i64 old,.int .i64 card,.slice (some ⟨gW,0,none⟩) n1 n1,.int .i64 0,.int .i64 0,.int .i64 0,.slice none 0 0,.slice none 0 0,.slice none 0 0,.slice (some ⟨gC,0,none⟩) n2 n2]:Array Value)[j]?=some v→(wb.alloc (.cells #[.int .i64 half,.int .i64 old,.int .i64 card,.slice (some ⟨gW,0,none⟩) n1 n1,.int .i64 0,.int .i64 0,.int .i64 0,.slice none 0 0,.slice none 0 0,.slice none 0 0,.slice (some ⟨gC,0,none⟩) n2 n2] t)).cell? ⟨wb.heap.size,j,none⟩=some v:=fun j v hv=>by
  rw[cell_of_row _ wb.heap.size j _ t (0,0) (heap_alloc_new wb _)];exact hv
 have r1:=ho1.alloc (.cells #[.int .i64 half,.int .i64 old,.int .i64 card,.slice (some ⟨gW,0,none⟩) n1 n1,.int .i64 0,.int .i64 0,.int .i64 0,.slice none 0 0,.slice none 0 0,.slice none 0 0,.slice (some ⟨gC,0,none⟩) n2 n2] t);have r2:=ho2.alloc (.cells #[.int .i64 half,.int .i64 old,.int .i64 card,.slice (some ⟨gW,0,none⟩) n1 n1,.int .i64 0,.int .i64 0,.int .i64 0,.slice none 0 0,.slice none 0 0,.slice none 0 0,.slice (some ⟨gC,0,none⟩) n2 n2] t);rw[e1] at r1;rw[e2] at r2;refine⟨hB,⟨_,t,heap_alloc_new wb _⟩,fun p hp=>?_,fun f hf=>?_,?_,?_⟩
 ·simp only[L5,List.mem_cons,List.not_mem_nil,or_false] at hp;rcases hp with rfl|rfl|rfl|rfl|rfl|rfl<;>exact hc _ _ rfl
 ·simp only[F3,List.mem_cons,List.not_mem_nil,or_false] at hf;rcases hf with rfl|rfl|rfl|rfl|rfl
  ·refine⟨?_,?_,?_⟩
   ·simp only[I6.val,l1];exact hc _ _ rfl
   ·simp only[I6.val,l1];exact r1
   ·simp[I6.val,Value.ownBlock];omega
  ·exact⟨hc _ _ rfl,World.ownsRow_nil _ _ _ _,by simp[I6.val,Value.ownBlock]⟩
  ·exact⟨hc _ _ rfl,World.ownsRow_nil _ _ _ _,by simp[I6.val,Value.ownBlock]⟩
  ·exact⟨hc _ _ rfl,World.ownsRow_nil _ _ _ _,by simp[I6.val,Value.ownBlock]⟩
  ·refine⟨?_,?_,?_⟩
   ·simp only[I6.val,l2];exact hc _ _ rfl
   ·simp only[I6.val,l2];exact r2
   ·simp[I6.val,Value.ownBlock];omega
 ·simp[F3,I6.val,Value.ownBlock];exact fun e=>hne e.symm
 ·simp[F3,L5]
theorem C8z (half old card:Int) (h:A1i half old card=true) (w:World) :
  Calls Zg 37 #[.int .i64 half,.int .i64 old,.int .i64 card] w (D3w w (T3 half old card)):=by
 simp only[A1i,Bool.and_eq_true] at h;obtain⟨⟨h1,h2⟩,h3⟩:=h;obtain⟨a1,a2⟩:=P0.1 h1;obtain⟨a3,a4⟩:=P0.1 h2;obtain⟨a5,a6⟩:=P0.1 h3;obtain⟨i0,hi0,h0a,h0b,h0c⟩:=info_parts C7a;obtain⟨i4,hi4,h4a,h4b,h4c⟩:=info_parts E3o;have q0:0≤(old+card-1)/card:=Int.ediv_nonneg (by omega) (by omega);have q1:(old+card-1)/card≤old+card-1:=Int.ediv_le_self _ (by omega);obtain⟨n1,hn1⟩:∃ n:Nat,2*half+old=n:=⟨(2*half+old).toNat,by omega⟩;obtain⟨n2,hn2⟩:∃ n:Nat,(old+card-1)/card=n:=⟨((old+card-1)/card).toNat,by omega⟩;have e0:IntKind.i64.wrap (2*half)=2*half:=Za _ (by omega);have e1:IntKind.i64.wrap (2*half+old)=(n1:Int):=by rw[Za _ (by omega)];exact hn1
 have e2:IntKind.i64.wrap (old+card)=old+card:=Za _ (by omega);have e3:IntKind.i64.wrap (old+card-1)=old+card-1:=Za _ (by omega);have e4:(old+card-1).tdiv card=(n2:Int):=by rw[Int.tdiv_eq_ediv_of_nonneg (by omega)];exact hn2
 have e5:IntKind.i64.wrap (n2:Int)=(n2:Int):=Za _ (by omega);have e8:(card==0)=false:=by simp;omega
 have e9:¬card=0:=by omega
 have z1:n1=(2*half+old).toNat:=by omega
 have z2:n2=((old+card-1)/card).toNat:=by omega
 obtain⟨wa,hr1,ho1,hg1⟩:=run_make_full (P:=Zg) w.drew w.heap.size 76 78 i0 (.int .u64 0) 1 C3g hi0 h0a h0b .i64 .i64 n1 (by rw[h0c];omega) (by unfold maxLen;omega) (Zd _);obtain⟨wb,hr2,ho2,hg2⟩:=run_make_full (P:=Zg) wa w.heap.size 64 4 i4 (.bool false) 1 D2w hi4 h4a h4b .i64 .i64 n2 (by rw[h4c];omega) (by unfold maxLen;omega) hg1.size;obtain⟨va,hs1,hp1,hh1⟩:=run_make_full (P:=Zg) w.drew w.heap.size 64 4 i4 (.bool false) 1 D2w hi4 h4a h4b .i64 .i64 n2 (by rw[h4c];omega) (by unfold maxLen;omega) (Zd _);obtain⟨vb,hs2,hp2,hh2⟩:=run_make_full (P:=Zg) va w.heap.size 76 78 i0 (.int .u64 0) 1 C3g hi0 h0a h0b .i64 .i64 n1 (by rw[h0c];omega) (by unfold maxLen;omega) hh1.size;have lt1:w.heap.size<wa.heap.size:=(ho1.lt w.drew.heap.size rfl).2;have lt2:w.heap.size<va.heap.size:=(hp1.lt w.drew.heap.size rfl).2;have x1:A0 w wa:=A0.trans_ (A0.refl w).drew_ (Below.grown (Below.refl _ _) hg1 (Zd _) (fun k hk=>by cases hk));have x2:A0 w wb:=A0.trans_ x1 (Below.grown (Below.refl _ _) hg2 (Zd _) (fun k hk=>by cases hk));have x3:A0 w va:=A0.trans_ (A0.refl w).drew_ (Below.grown (Below.refl _ _) hh1 (Zd _) (fun k hk=>by cases hk));have x4:A0 w vb:=A0.trans_ x3 (Below.grown (Below.refl _ _) hh2 (Zd _) (fun k hk=>by cases hk));have HOM:=Hz (D0d (wb:=wb) w.heap.size half old card 82 140 n1 n2 w.heap.size wa.heap.size z1 z2 x2.size (by omega) (ho1.kept hg2 (Or.inr (by simp[Value.ownBlock]))) ho2);have HOV:=Hz (D0d (wb:=vb) w.heap.size half old card 82 140 n1 n2 va.heap.size w.heap.size z1 z2 x4.size (by omega) hp2 (hp1.kept hh2 (Or.inr (by simp[Value.ownBlock]))));have X2:=Hz x2;have X4:=Hz x4;clear ho1 hg1 ho2 hg2 x1 x2 x3 x4 hp1 hp2 hh1 hh2 hn1 hn2 z1 z2 q0 q1 lt1 lt2
 go_enter Tryz.func37,Tryz.ntmps37
 go_wp2_with (go_at_call 83;refine (C8u _ _ _).mono ?_;rintro e w' ⟨rfl,rfl⟩)
 refine wp_region_held_drew (S:=fun _=>True) (by kernel_rfl) ?_ (fun hH=>?_)
 ·trivial
 refine tJ 0 26 rfl ?_
 try simp only[A5]
 refine tJ 1 27 rfl ?_
 try simp only[A5]
 refine tJ 2 28 rfl ?_
 try simp only[A5]
 refine tJ 3 29 rfl ?_
 try simp only[A5]
 refine tJ 4 30 rfl ?_
 try simp only[A5]
 refine tJ 5 31 rfl ?_
 try simp only[A5]
 refine tJ 6 32 rfl ?_
 try simp only[A5]
 refine tJ 8 34 rfl ?_
 try simp only[A5]
 refine tJ 9 35 rfl ?_
 try simp only[A5]
 refine tJ 10 36 rfl ?_
 try simp only[A5]
 refine tJ 11 37 rfl ?_
 try simp only[A5]
 refine tJ 12 38 rfl ?_
 try simp only[A5]
 refine tJ 13 39 rfl ?_
 try simp only[A5]
 refine wpAnyH_ready (rs:=[7,14]) (by kernel_rfl) (by simp) ?_;refine AllReadyH.cons (o:=⟨some 33,_,_,_,_,_⟩) rfl (fun K hK=>?_) (AllReadyH.cons (o:=⟨some 40,_,_,_,_,_⟩) rfl (fun K hK=>?_) AllReadyH.nil)
 ·skip;go_simp;refine hK.out _ _ ?_ (fun hH=>?_)
  ·(try dsimp only);all_goals trivial
  clear hK K
  try simp only[A5]
  refine wpAnyH_ready (rs:=[14]) (by kernel_rfl) (by simp) ?_;refine AllReadyH.cons (o:=⟨some 40,_,_,_,_,_⟩) rfl (fun K hK=>?_) AllReadyH.nil;go_simp;skip;refine hK.out _ _ ?_ (fun hH=>?_)
  ·(try dsimp only);all_goals trivial
  clear hK K
  try simp only[A5]
  refine tJ 15 41 rfl ?_
  try simp only[A5]
  refine wpAnyH_ready (rs:=[16]) (by kernel_rfl) (by simp) ?_;refine AllReadyH.cons (o:=⟨some 42,_,_,_,_,_⟩) rfl (fun K hK=>?_) AllReadyH.nil;go_simp;skip;refine hK.out _ _ ?_ (fun hH=>?_)
  ·(try dsimp only);all_goals trivial
  clear hK K
  try simp only[A5]
  refine tJ 17 6 rfl ?_
  try simp only[A5]
  refine tJ 18 7 rfl ?_
  try simp only[A5]
  refine wpAnyH_done (by kernel_rfl) ?_ _;go_wp2
  go_ret2
  exact⟨wb.heap.size,_,rfl,HOM.out,A0.alloc_ X2.out _⟩
 ·skip;go_simp;refine hK.out _ _ ?_ (fun hH=>?_)
  ·(try dsimp only);all_goals trivial
  clear hK K
  try simp only[A5]
  refine wpAnyH_ready (rs:=[7]) (by kernel_rfl) (by simp) ?_;refine AllReadyH.cons (o:=⟨some 33,_,_,_,_,_⟩) rfl (fun K hK=>?_) AllReadyH.nil;go_simp;skip;refine hK.out _ _ ?_ (fun hH=>?_)
  ·(try dsimp only);all_goals trivial
  clear hK K
  try simp only[A5]
  refine tJ 15 41 rfl ?_
  try simp only[A5]
  refine wpAnyH_ready (rs:=[16]) (by kernel_rfl) (by simp) ?_;refine AllReadyH.cons (o:=⟨some 42,_,_,_,_,_⟩) rfl (fun K hK=>?_) AllReadyH.nil;go_simp;skip;refine hK.out _ _ ?_ (fun hH=>?_)
  ·(try dsimp only);all_goals trivial
  clear hK K
  try simp only[A5]
  refine tJ 17 6 rfl ?_
  try simp only[A5]
  refine tJ 18 7 rfl ?_
  try simp only[A5]
  refine wpAnyH_done (by kernel_rfl) ?_ _;go_wp2
  go_ret2
  exact⟨vb.heap.size,_,rfl,HOV.out,A0.alloc_ X4.out _⟩
theorem E6y (n:Nat) (h:n≤1000000) (w:World):Calls Zg 84 #[.int .u64 1,.int .u64 (n:Int)] w fun e w'=>e=.returned (.tuple #[.int .u64 0,.int .u64 (n:Int)])∧w'=w:=by
 have:=E7a 1 n (by omega) (by omega) w;rw[show 1*n/18446744073709551616=0 by omega,show 1*n%18446744073709551616=n by omega] at this;exact this
theorem F0z {P:Program} {t e:TypeId} (ht:P.underlying t=some (.slice e)) (hz:∀ w,(sizeOf e).run P w=.ok 1 w) (g len cap i:Nat) (hi:i≤cap) (w':World) :
  (Instr.slice t (.slice (some ⟨g,0,none⟩) len cap) none (some (.int .i64 (i:Int))) none).run P w'=.ok (.slice (some ⟨g,0,none⟩) i cap) w':=by
 have he:P.elem t=e:=by simp[Program.elem,ht]
 have ht':P.underlying t=some (.slice (P.elem t)):=by rw[he];exact ht
 rw[run_slice_h w' t (some ⟨g,0,none⟩) len cap ht' .i64 (i:Int) (by omega) (by omega),he,hz];simp[Result.andThen,sliced,Addr.add]
theorem F8l (n:Nat) (v:Int):C5 (List.replicate n v)=List.replicate n (.int .u64 v):=by simp[C5]
theorem D1u (n k m:Nat) (v z:Value) (h:k+m≤n):splice (List.replicate k v++List.replicate (n-k) z) k (List.replicate m v)=List.replicate (k+m) v++List.replicate (n-(k+m)) z:=by
 unfold splice;rw[List.take_append,List.drop_append];simp only[List.take_replicate,List.drop_replicate,Zc,Nat.min_self];rw[show k-k=0 by omega,show k-(k+m)=0 by omega,show k+m-k=m by omega,Nat.zero_min];simp only[List.replicate_zero,List.append_nil,List.nil_append];rw[←List.append_assoc,List.replicate_append_replicate,show n-k-m=n-(k+m) by omega]
def rowR (n k:Nat) (v:Int):List Value:=List.replicate k (.int .u64 v)++List.replicate (n-k) (.int .u64 0)
theorem C2l (n k:Nat) (v:Int) (h:k≤n):(rowR n k v).length=n:=by unfold rowR;simp;omega
theorem F0w (n k:Nat) (v:Int) (j:Nat) (hj:j<k):(rowR n k v)[j]?=some (.int .u64 v):=by
 unfold rowR;rw[List.getElem?_append_left (by simpa using hj)];simp[hj]
theorem F0y (wr:World) (G n k m:Nat) (v:Int) (A:Option Addr) (C:Nat) (hO:wr.ownsRow G 78 1 (.slice (some ⟨G,0,none⟩) n n) n (rowR n k v)) (hR:F7 wr (some ⟨G,0,none⟩) (rowR n k v)) (hA:A=some ⟨G,k,none⟩) (hm:m=min k (n-k)) (hk:1≤k) (hlt:k<n) :
  ∃ w',(Builtin.copy_ #[76,76] 3 #[.slice A (n-k) C,.slice (some ⟨G,0,none⟩) k n]).run Zg wr=.ok (goInt m) w'∧But G wr w'∧w'.ownsRow G 78 1 (.slice (some ⟨G,0,none⟩) n n) n (rowR n (k+m) v):=by
 obtain⟨g',hg',-,-,-,hc,cur,hh,hlen,htake⟩:=Q3 hO (by omega);injection hg' with hg';injection hg' with hg';subst hg';simp only[Ze] at hlen htake;have hcs:(List.replicate m (Value.int .u64 v)).length=m:=by simp
 obtain⟨w',hr,hg2,hb⟩:=C2n (P:=Zg) (w:=wr) 76 76 3 78 A0c A9s A (some ⟨G,0,none⟩) (n-k) C k n G k cur 78 hh (List.replicate m (Value.int .u64 v)) (by rw[hcs,hm])
  (fun _=>⟨hA,⟨G,0,none⟩,rfl,fun j u hu=>by
   have hj:j<m:=by
    rcases Nat.lt_or_ge j m with q|q
    ·exact q
    ·rw[Zb (by simpa using q)] at hu;cases hu
   rw[List.getElem?_replicate,if_pos hj] at hu;injection hu with hu;subst hu;have:=hR.at_ (F0w n k v j (by omega));by_cases e:j=0
   ·subst e;simpa [Addr.add] using this
   ·simpa [Addr.add,e] using this⟩) (by rw[hcs];omega) (by intro u hu;rw[(List.mem_replicate.1 hu).2];rfl)
 rw[hcs] at hr;refine⟨w',hr,hb,?_⟩;have:=B4p hO rfl hh k (List.replicate m (Value.int .u64 v)) (by rw[hcs];omega) hg2;have e:splice (rowR n k v) k (List.replicate m (Value.int .u64 v))=rowR n (k+m) v:=D1u n k m (.int .u64 v) (.int .u64 0) (by omega);rw[e] at this;exact this
theorem F0q (xb xo xc n:Nat) (v:Int) (w:World) (hc:w.cell? ⟨xb,xo,none⟩=some (.int .u64 v)) (hn:n≤5000) :
  Calls Zg 38 #[.slice (some ⟨xb,xo,none⟩) 1 xc,.int .i64 (n:Int)] w fun e w'=>e=.returned (.slice (some ⟨w.heap.size,0,none⟩) n n)∧w'.ownsRow w.heap.size 78 1 (.slice (some ⟨w.heap.size,0,none⟩) n n) n (C5 (List.replicate n v))∧A0 w w':=by
 obtain⟨i0,hi0,h0a,h0b,h0c⟩:=info_parts C7a;obtain⟨w1,hr1,ho1,hg1⟩:=run_make_full (P:=Zg) w w.heap.size 76 78 i0 (.int .u64 0) 1 C3g hi0 h0a h0b .i64 .i64 n (by rw[h0c];omega) (by unfold maxLen;omega) (Zd _);have hx1:A0 w w1:=Below.grown (Below.refl _ _) hg1 (Zd _) (fun k hk=>by cases hk);have hlt:xb<w.heap.size:=B9 hc;obtain⟨G,hG⟩:∃ G,G=w.heap.size:=⟨_,rfl⟩;have e1:(madeCells (Value.int .u64 0).cells (n*1)).toList=rowR n 0 v:=by
  rw[show (Value.int .u64 0).cells=#[Value.int .u64 0] from rfl,Ze,toList_madeCells_one];simp[rowR]
 rw[e1] at ho1;rw[←hG] at hr1 ho1;have hXL:xb≠G:=by omega
 have a1:IntKind.u64.wrap (n:Int)=(n:Int):=IntWalk.u64_in _ (by omega);have a2:IntKind.i64.wrap (n:Int)=(n:Int):=Za _ (by omega);have a3:¬((n:Int)<0):=by omega
 have a4:¬(9223372036854775807<(n:Int)):=by omega
 have hcx:w1.cell? ⟨xb,xo,none⟩=some (.int .u64 v):=hx1.cell_ hc;obtain⟨w2,m0,hrun,ho2,hx2,hm1,hm2⟩:∃ (w2:World) (m0:Nat),(Builtin.copy_ #[76,76] 3 #[.slice (some ⟨G,0,none⟩) n n,.slice (some ⟨xb,xo,none⟩) 1 xc]).run Zg w1=.ok (goInt m0) w2∧w2.ownsRow G 78 1 (.slice (some ⟨G,0,none⟩) n n) n (rowR n m0 v)∧A0 w w2∧m0≤n∧(n=0∨1≤m0):=by
  obtain rfl|hn1:n=0∨1≤n:=by omega
  ·exact⟨w1,0,run_copy_none (P:=Zg) w1 76 76 3 78 (some ⟨G,0,none⟩) (some ⟨xb,xo,none⟩) 0 0 1 xc A0c A9s rfl,ho1,hx1,Zd _,Or.inl rfl⟩
  ·obtain⟨w2,hrun,hb2,ho2⟩:=B9y (P:=Zg) (W:=w1) 76 3 78 A0c A9s (B:=G) (a:=some ⟨G,0,none⟩) (c:=n) (xs:=rowR n 0 v) (by rw[C2l _ _ _ (Zf _)];exact ho1) rfl (some ⟨G,0,none⟩) (some ⟨xb,xo,none⟩) n xc 0 n [.int .u64 v] rfl ⟨xb,xo,none⟩ rfl
    (fun k u hu=>by
     obtain rfl:k=0:=by
      rcases Nat.eq_zero_or_pos k with q|q
      ·exact q
      ·rw[Zb (by rw[List.length_singleton];omega)] at hu;cases hu
     simp at hu;subst hu;simpa [Addr.add] using hcx) (by intro u hu;rw[List.mem_singleton.1 hu];rfl) (by simp) (by simpa using hn1) (by rw[C2l _ _ _ (Zf _)];simpa using hn1)
   rw[C2l _ _ _ (Zf _)] at ho2;have e2:splice (rowR n 0 v) 0 [.int .u64 v]=rowR n 1 v:=by
    have:=D1u n 0 1 (.int .u64 v) (.int .u64 0) (by omega);rw[Nat.zero_add] at this;exact this
   rw[e2] at ho2;exact⟨w2,1,hrun,ho2,hx1.trans ⟨hb2.os,hb2.tape,hb2.output,Nat.le_of_eq hb2.size.symm,fun k hk=>hb2.block k (by omega)⟩,hn1,Or.inr (Zd _)⟩
 have HO:=Hz ho2;have HX:=Hz hx2;have HGE:=Hz hG;clear ho1 ho2 hx1 hg1 e1 hx2 hcx hc hG
 go_enter Tryz.func38,Tryz.ntmps38
 go_wp2_with (go_at_call 84;refine (E6y n (by omega) _).mono ?_;rintro e w9 ⟨rfl,hw9⟩;have hw9:=hw9.symm;subst hw9)
 clear hrun hr1
 go_loopw [8] (fun i wr=>∃ k:Nat,k≤n∧(n=0∨1≤k)∧i=.int .i64 (k:Int)∧Hid (wr.ownsRow G 78 1 (.slice (some ⟨G,0,none⟩) n n) n (rowR n k v))∧Hid (A0 w wr)) (fun i _=>n-(intOf i).toNat)
 case atStart=>exact⟨m0,hm1,hm2,rfl,HO.out,HX.out⟩
 case round =>
  obtain⟨k,hk,hk1,rfl,hO,hE⟩:=hrel;by_cases hlt2:k<n
  ·have hltz:(k:Int)<(n:Int):=by omega
   have hk2:1≤k:=by omega
   obtain⟨m,hm⟩:∃ m,m=min k (n-k):=⟨_,rfl⟩;obtain⟨A,C,hsl,hA⟩:=D1i (P:=Zg) A0c A3w G n n k (k:Int) rfl (by omega) (Zd _);have hsh:=F0z (P:=Zg) A0c A3w G n n k (by omega);have hRl:F7 wr (some ⟨G,0,none⟩) (rowR n k v):=(R4 hO.out).1;obtain⟨w4,hrun4,hb4,ho4⟩:=F0y wr.drew G n k m v A C (A2n hO.out (Zd _) ((A0.refl _).drew_)) (hRl.ext ((A0.refl _).drew_)) (hA (by omega)) hm hk2 (by omega);have HO4:=Hz ho4;have HX4:Hid (A0 w w4):=Below.trans (hE.out.drew_) ⟨hb4.os,hb4.tape,hb4.output,Nat.le_of_eq hb4.size.symm,fun j hj=>hb4.block j (by have:=HGE.out;omega)⟩;have a5:IntKind.i64.wrap ((k:Int)+(m:Int))=((k+m:Nat):Int):=by rw[Za _ (by omega)];omega
   have hq1:k+m≤n:=by omega
   have hq2:1≤m:=by omega
   clear ho4 hb4 hRl hA hm;go_wp2;go_region
   go_roundw
   case rel=>exact⟨_,_,_,_,_,_,_,_,_,_,_,_,_,_,⟨k+m,hq1,by omega,by go_num,HO4.out,HX4.out⟩,rfl⟩
   case measure=>simp[intOf];omega
  ·obtain rfl:k=n:=by omega
   have hltz:¬(k:Int)<(k:Int):=by omega
   go_wp2;go_ret;refine⟨by rw[←HGE.out];rfl,?_,hE.out⟩;have:=hO.out;rw[←HGE.out];rw[F8l];unfold rowR at this;simpa using this
open Go.RowKit Go.Extern.Stop Go.Stop Go.Extern
theorem F8j (t:Addr) (w:World):(ReflectliteValue.unpack (.iface 183 (.pointer (some t)))).run Zg w
  = .ok (.agg #[.pointer (some ⟨11,183,none⟩),.pointer (some ⟨w.heap.size,0,none⟩),.int .u64 150]) (w.alloc (.cells #[.pointer (some t)] 183)):=by kernel_rfl
theorem F7z (a:Addr) (w:World):(ReflectliteValue.methodAny (ReflectliteValue.valueError "reflectlite.Value.Type" 0) (fun t _ _ _=>ReflectliteType.toType t) #[.agg #[.pointer (some ⟨11,183,none⟩),.pointer (some a),.int .u64 150]]).run Zg w
  = .ok (.iface 206 (.agg #[.pointer (some ⟨11,183,none⟩)])) w:=by kernel_rfl
theorem E6b (h:Value) (w:World):(Go.method 391 206 (.agg #[h]) "Kind").run Zg w=.ok (199,h) w:=by kernel_rfl
theorem E4k (w:World):((ReflectliteType.abiMethod fun t=>(fun a:Nat=>Value.int IntKind.u8 (a:Int)) <$> Rtype.kind t) #[.pointer (some ⟨11,183,none⟩)]).run Zg w=.ok (.int .u8 22) w:=by kernel_rfl
theorem E4j (w:World):((ReflectliteType.abiMethod fun t=>(fun a:Nat=>Value.int IntKind.u8 (a:Int)) <$> Rtype.kind t) #[.pointer (some ⟨11,181,none⟩)]).run Zg w=.ok (.int .u8 22) w:=by kernel_rfl
theorem rlm (z:Sem Value) (f:TypeId→Addr→Nat→Nat→Sem Value) (v:Value) :
  ReflectliteValue.method z f #[v]=(do match ←ReflectliteValue.parts v with|none=>z|some (t,a,fl)=>f t a fl (fl%32)):=rfl
theorem E9n (a:Addr) (w:World):(ReflectliteValue.parts (.agg #[.pointer (some ⟨11,183,none⟩),.pointer (some a),.int .u64 150])).run Zg w=.ok (some (183,a,150)) w:=by kernel_rfl
theorem E3w (a p:Addr) (W:World) (ha:W.cell? a=some (.pointer (some p))) :
  (ReflectliteValue.method (ReflectliteValue.valueError "reflectlite.Value.IsNil" 0) ReflectliteValue.isNil #[.agg #[.pointer (some ⟨11,183,none⟩),.pointer (some a),.int .u64 150]]).run Zg W=.ok (.bool false) W:=by
 rw[rlm];simp only[Sem.run_bind,E9n,Result.andThen];simp[ReflectliteValue.isNil,loadVar,isAgg,underlying,Tryz.underlying183,ha,Result.andThen]
theorem E5z (h:Value) (w:World):(Go.method 391 206 (.agg #[h]) "Elem").run Zg w=.ok (208,.agg #[h]) w:=by kernel_rfl
theorem E6a (h:Value) (w:World):(Go.method 391 206 (.agg #[h]) "Implements").run Zg w=.ok (209,.agg #[h]) w:=by kernel_rfl
theorem E5y (h:Value) (w:World):(Go.method 391 206 (.agg #[h]) "AssignableTo").run Zg w=.ok (206,.agg #[h]) w:=by kernel_rfl
theorem D9d (w:World):(ReflectliteType.method ReflectliteType.elem #[.agg #[.pointer (some ⟨11,183,none⟩)]]).run Zg w=.ok (.iface 206 (.agg #[.pointer (some ⟨11,181,none⟩)])) w:=by kernel_rfl
theorem E3f (w:World):(ReflectliteType.relation "Implements" ReflectliteType.implements_ #[.agg #[.pointer (some ⟨11,181,none⟩)],.iface 206 (.agg #[.pointer (some ⟨11,26,none⟩)])]).run Zg w=.ok (.bool true) w:=by kernel_rfl
theorem D5h (w:World):(ReflectliteType.relation "AssignableTo" ReflectliteType.assignableTo #[.agg #[.pointer (some ⟨11,261,none⟩)],.iface 206 (.agg #[.pointer (some ⟨11,181,none⟩)])]).run Zg w=.ok (.bool false) w:=by kernel_rfl
theorem E7v (v:Value) (xT:TypeId) (w:World):(Instr.typeAssert (.iface 261 v) xT 249 true).run Zg w=.ok (.tuple #[.nilIface,.bool false]) w:=run_typeAssert_lacksB Tryz.underlying249 (by kernel_rfl) (by kernel_rfl) v xT w
abbrev B9c (w:World):Prop:=w.cell? ⟨7,0,none⟩=some (.iface 206 (.agg #[.pointer (some ⟨11,26,none⟩)]))
theorem D5g (a t:Addr) (w:World) (hg:B9c w) :
  Calls Zg 124 #[E0 a,.iface 183 (.pointer (some t))] w fun ev w'=>ev=.returned (.bool false)∧A0 w w':=by
 have h6:=@run_callFunc_extern Zg 154 _ (fun args=>ReflectliteValue.unpack (args.getD 0 (.tuple #[]))) Tryz.func154 (by kernel_rfl) (by kernel_rfl) (by kernel_rfl) (by kernel_rfl);have h7:=@run_callFunc_extern Zg 155 _ (ReflectliteValue.methodAny (ReflectliteValue.valueError "reflectlite.Value.Type" 0) (fun t _ _ _=>ReflectliteType.toType t)) Tryz.func155 (by kernel_rfl) (by kernel_rfl) (by kernel_rfl) (by kernel_rfl);have h8:=@run_callFunc_extern Zg 156 _ (ReflectliteValue.method (ReflectliteValue.valueError "reflectlite.Value.IsNil" 0) ReflectliteValue.isNil) Tryz.func156 (by kernel_rfl) (by kernel_rfl) (by kernel_rfl) (by kernel_rfl);have h27:=@run_callFunc_extern Zg 199 _ (ReflectliteType.abiMethod fun t=>do pure (.int .u8 (←Rtype.kind t))) Tryz.func199 (by kernel_rfl) (by kernel_rfl) (by kernel_rfl) (by kernel_rfl);have h37:=@run_callFunc_extern Zg 208 _ (ReflectliteType.method ReflectliteType.elem) Tryz.func208 (by kernel_rfl) (by kernel_rfl) (by kernel_rfl) (by kernel_rfl);have h38:=@run_callFunc_extern Zg 209 _ (ReflectliteType.relation "Implements" ReflectliteType.implements_) Tryz.func209 (by kernel_rfl) (by kernel_rfl) (by kernel_rfl) (by kernel_rfl);have h10:=@run_callFunc_extern Zg 96 _ ReflectliteType.typeOf Tryz.func96 (by kernel_rfl) (by kernel_rfl) (by kernel_rfl) (by kernel_rfl);have h35:=@run_callFunc_extern Zg 206 _ (ReflectliteType.relation "AssignableTo" ReflectliteType.assignableTo) Tryz.func206 (by kernel_rfl) (by kernel_rfl) (by kernel_rfl) (by kernel_rfl);have tO:=C0y;have mA:=E5y;have aE:=D5h;have f6:=F8j;have f7:=F7z;have mK:=E6b;have mE:=E5z;have mI:=E6a;have k27:=E4k;have k25:=E4j;have e27:=D9d;have i25:=E3f;have nA:=E7v;have uE:=C9a;have vE:=C9b;have n8:=E3w ⟨w.heap.size,0,none⟩ t ((w.alloc (.cells #[.pointer (some t)] 183)).alloc (.cells #[.pointer (some ⟨11,183,none⟩),.pointer (some ⟨w.heap.size,0,none⟩),.int .u64 150] 225)) (by simp);have hlt:=B9 hg;simp only at hlt
 go_enter Tryz.func124,Tryz.ntmps124
 go_wp2;refine wp_loop_rounds 1 ?_;rw[rounds_succ];go_wp2;go_ret;refine⟨rfl,?_⟩
 repeat (first|exact A0.refl _|refine A0.alloc_ ?_ _)
structure A6s (E:Nat→Addr) (w:World):Prop where
 text:w.cell? ⟨4,0,none⟩=some (E0 (E 0))
 bound:w.cell? ⟨0,0,none⟩=some (E0 (E 1))
 shape:w.cell? ⟨3,0,none⟩=some (E0 (E 2))
 name:w.cell? ⟨5,0,none⟩=some (E0 (E 3))
 place:w.cell? ⟨1,0,none⟩=some (E0 (E 4))
 full:w.cell? ⟨2,0,none⟩=some (E0 (E 5))
 nothing:w.cell? ⟨6,0,none⟩=some (E0 (E 6))
 etype:B9c w
 blk:∀ i,i<7→∃ c t,w.heap[(E i).block]?=some (.cells c t (0,0))
 ne:∀ i j,i<7→j<7→i≠j→E i≠E j
theorem A6s.g4 {E:Nat→Addr} {w:World} (h:A6s E w):G4 E w:=⟨⟨h.bound,h.shape,h.place⟩,h.full⟩
theorem D5q {w:World} {b:Nat} {o:Obj} (h:w.heap[b]?=some o):b<w.heap.size:=by
 rcases Nat.lt_or_ge b w.heap.size with g|g
 ·exact g
 ·simp[Array.getElem?_eq_none g] at h
theorem A0.block_ {w w':World} (h:A0 w w') {b:Nat} {o:Obj} (hb:w.heap[b]?=some o):w'.heap[b]?=some o:=by
 rw[Below.block h b (D5q hb)];exact hb
theorem A6s.ext {E:Nat→Addr} {w w':World} (h:A6s E w) (hx:A0 w w'):A6s E w' :=
 ⟨hx.cell_ h.text,hx.cell_ h.bound,hx.cell_ h.shape,hx.cell_ h.name,hx.cell_ h.place,hx.cell_ h.full,hx.cell_ h.nothing,hx.cell_ h.etype,
  fun i hi=>let ⟨c,t,hc⟩:=h.blk i hi;⟨c,t,hx.block_ hc⟩,h.ne⟩
theorem D7k (w:World):Calls Zg 72 #[.nilIface] w fun e w'=>e=.returned (.tuple #[.int .i64 0,.int .i64 (-1)])∧w'=w:=by
 go_enter Tryz.func72,Tryz.ntmps72
 go_wp2_with fail
 go_ret2
 exact⟨rfl,rfl⟩
theorem D7j {E:Nat→Addr} {w:World} (h:A6s E w) (k:Nat) (hk:k<7) :
  Calls Zg 72 #[E0 (E k)] w fun e w'=>e=.returned (.tuple #[.int .i64 (k+1),.int .i64 (-1)])∧A0 w w':=by
 have l0:=B9 h.text;have l1:=B9 h.bound;have l2:=B9 h.shape;have l3:=B9 h.name;have l4:=B9 h.place;have l5:=B9 h.full;have l6:=B9 h.nothing;simp only at l0 l1 l2 l3 l4 l5 l6;have H:=Hz h;clear h
 go_enter Tryz.func72,Tryz.ntmps72
 go_wp2_with (first
  | (go_at_call 124;refine (D5g _ _ _ (((A0.refl w).alloc_ _).cell_ H.out.etype)).mono ?_;rintro e w1 ⟨rfl,hb⟩;have h1:=H.out.ext (((A0.refl w).alloc_ _).trans_ hb);have hz:w.heap.size<w1.heap.size:=(by have:=hb.size;simp only[World.size_alloc] at this;omega);have c0:=h1.text;have c1:=h1.bound;have c2:=h1.shape;have c3:=h1.name;have c4:=h1.place;have c5:=h1.full;have c6:=h1.nothing))
 have hx:A0 w (w1.alloc (.cells #[E0 (E 0),E0 (E 1),E0 (E 2),E0 (E 3),E0 (E 4),E0 (E 5),E0 (E 6)] 26)):=(((A0.refl w).alloc_ _).trans_ hb).alloc_ _;have h2:=Hz (h1.ext ((A0.refl w1).alloc_ (.cells #[E0 (E 0),E0 (E 1),E0 (E 2),E0 (E 3),E0 (E 4),E0 (E 5),E0 (E 6)] 26)));have hcell:∀ j,j<7→(w1.alloc (.cells #[E0 (E 0),E0 (E 1),E0 (E 2),E0 (E 3),E0 (E 4),E0 (E 5),E0 (E 6)] 26)).cell? ⟨w1.heap.size,j,none⟩=some (E0 (E j)):=by
  intro j hj;rw[World.cell?_alloc_new]
  match j,hj with
  | 0,_=>rfl
  | 1,_=>rfl
  | 2,_=>rfl
  | 3,_=>rfl
  | 4,_=>rfl
  | 5,_=>rfl
  | 6,_=>rfl
 clear h1 hb hz c0 c1 c2 c3 c4 c5 c6 l0 l1 l2 l3 l4 l5 l6;generalize w1.heap.size=nb at *
 generalize (w1.alloc (.cells #[E0 (E 0),E0 (E 1),E0 (E 2),E0 (E 3),E0 (E 4),E0 (E 5),E0 (E 6)] 26))=W at *
 have HC:=Hz hcell;clear hcell
 go_loop [3,25] (fun c i=>∃ j:Nat,j≤k∧c=.int .i64 (-1)∧i=.int .i64 j) (fun _ i=>7-(intOf i).toNat)
 case atStart=>exact⟨0,Zf _,rfl,rfl⟩
 case round =>
  obtain⟨j,hj,rfl,rfl⟩:=hrel;have hc:=HC.out j (by omega);by_cases hjk:k=j
  ·subst hjk
   go_wp2_with (first
    | (go_at_call 45;refine (C7k _ _).mono ?_;rintro e w' ⟨rfl,rfl⟩))
   go_ret2
   exact⟨rfl,hx⟩
  ·have hd:j<k:=by omega
   obtain⟨ca,ta,ha⟩:=h2.out.blk k hk;obtain⟨cb,tb,hb⟩:=h2.out.blk j (by omega);have hne:=h2.out.ne k j hk (by omega) hjk;have Ha:=Hz ha;have Hb:=Hz hb;clear ha hb
   go_wp2_with (first
    | (go_at_call 45;refine (E3z _ _ _ _ _ _ _ hne Ha.out Hb.out).mono ?_;rintro e w' ⟨rfl,rfl⟩))
   go_round
   case rel=>exact⟨j+1,by omega,rfl,by go_num⟩
   case measure=>simp[intOf];omega
theorem D7m (c:Int) (w:World):Calls Zg 28 #[.nilIface,.int .i64 c] w fun e w'=>e=.returned (.bool (0==c))∧w'=w:=by
 rcases hc:(0==c) with _|_
 all_goals
  go_enter Tryz.func28,Tryz.ntmps28
  go_wp2_with (go_at_call 72;refine (D7k _).mono ?_;rintro e w' ⟨rfl,rfl⟩)
  go_ret;exact⟨rfl,rfl⟩
theorem D7l {E:Nat→Addr} {w:World} (h:A6s E w) (k:Nat) (hk:k<7) (c:Int) :
  Calls Zg 28 #[E0 (E k),.int .i64 c] w fun e w'=>e=.returned (.bool ((k+1:Int)==c))∧A0 w w':=by
 have H:=Hz h;clear h;rcases hc:((k+1:Int)==c) with _|_
 all_goals
  go_enter Tryz.func28,Tryz.ntmps28
  go_wp2_with (go_at_call 72;refine (D7j H.out k hk).mono ?_;rintro e w' ⟨rfl,hb⟩)
  go_ret;exact⟨rfl,hb⟩
theorem C8w (half old card:Int) (h:A1i half old card=true):(T3 half old card).Ok:=by
 simp only[A1i,Bool.and_eq_true] at h;obtain⟨⟨h1,h2⟩,h3⟩:=h;obtain⟨a1,a2⟩:=P0.1 h1;obtain⟨a3,a4⟩:=P0.1 h2;obtain⟨a5,a6⟩:=P0.1 h3;have q0:0≤(old+card-1)/card:=Int.ediv_nonneg (by omega) (by omega);have q1:(old+card-1)/card≤old+card-1:=Int.ediv_le_self _ (by omega);refine⟨by simp only[T3];omega,by simp only[T3];omega,by simp only[T3];omega,by simp[T3],by simp[T3],by simp[T3],?_,by simp[T3],by simp[T3],by simp[T3],?_,by simp[T3],by simp[T3],by simp[T3],?_⟩
 ·intro x hx;simp only[T3] at hx;have:=(List.mem_replicate.1 hx).2;omega
 ·simp only[T3,Zc];omega
 ·simp only[T3,Zc];omega
end Go.Proofs.YtelhoppfidibiaaGreatDoor
