/- Several texts, joined. -/
import Derived.Lib.Hide
import Derived.WalkKit
import Derived.WalkSpells
import Derived.WalkLawsBesides
import Derived.Deep.DeepFit
import Derived.OwnWalkIn
import Derived.TacticsInMore
import Derived.LoopNIn
import Derived.LoopIn
import Derived.Sort.QuietIn
import Derived.Sort.BigQuietIn
import Derived.Sort.QuietTacIn
import Derived.Sort.LoopGhostIn
import Derived.Stop.RegionWithIn
import Derived.Maps.OwnIn
import Derived.Shelf.Abstract
import Derived.Shelf.RegionOpen
import Derived.RangeFuncRecord
import Derived.BigRegion
import Derived.Laws.Tables
import Derived.Maps.Own
import Derived.Maps.OwnOps
import Derived.Maps.OwnSet
import Derived.DeepKeys4
import Derived.Lib.SliceRun
import Derived.KernelRfl
import Derived.Test.YthpahlkhiknofaaQU2
namespace Go.Proofs.Ythpahlkhiknofaa.ArrEq
end Go.Proofs.Ythpahlkhiknofaa.ArrEq
namespace Go.Proofs.Ythpahlkhiknofaa.G
end Go.Proofs.Ythpahlkhiknofaa.G
namespace Go.Proofs.Ythpahlkhiknofaa.H
end Go.Proofs.Ythpahlkhiknofaa.H
namespace Go.Proofs.Ythpahlkhiknofaa.P
end Go.Proofs.Ythpahlkhiknofaa.P
set_option linter.unusedVariables false
set_option linter.unusedSimpArgs false
set_option linter.unusedSectionVars false
namespace Go.Proofs.Ythpahlkhiknofaa.P
open Go Go.RowKit Go.Proofs.Ythpahlkhiknofaa.M Go.Proofs.Ythpahlkhiknofaa.G
open Go.Proofs.YthpahlkhiknofaaW.PrintWords Go.Proofs.YthpahlkhiknofaaW.PrintMore
theorem ev_aw:Ev (fun _=>(numnahlaw01_awake.f).bind fun t=>some t) true:=Ev.now _
end Go.Proofs.Ythpahlkhiknofaa.P
namespace Go.Proofs.Ythpahlkhiknofaa.G
open Go.RowKit Go.Proofs.YthpahlkhiknofaaW.PrintWords Go.Proofs.YthpahlkhiknofaaW.PrintLast Go.Proofs.YthpahlkhiknofaaW.PrintMore
set_option maxHeartbeats 8000000
set_option maxRecDepth 100000
attribute [local go_sem] max2_int min2_int max_two min_two max_three min_three max_four min_four   -- for this text's walks alone
def card_within.f (a0:Int) (a1:Int) (a2:Int):Option (Bool):=if a0 ≥ a1 then (some (decide (a0 ≤ a2))) else (some false)
theorem card_within.calls (a0:Int) (a1:Int) (a2:Int) (r:Bool) (w:World) (h:card_within.f a0 a1 a2 = some r) :
  Calls Try.prog 61 #[.int .i64 a0,.int .i64 a1,.int .i64 a2] w fun e w'=>e = .returned (.bool r) ∧ Drawn0 w w':=by
 have H:(if a0 ≥ a1 then (some (decide (a0 ≤ a2))) else (some false)) = some r:=h
 clear h
 by_cases c4:a0 ≥ a1
 ·rw [if_pos c4] at H
  have c4b0:decide (a1 ≤ a0) = true:=decide_eq_true c4
  clear c4
  obtain rfl:=Option.some.inj H
  go_enter Try.func61,Try.ntmps61
  go_wp2
  go_ret
  exact ⟨by first | rfl | (simp;done) | (simp [*];done),by repeat (first | exact Drawn0.refl _ | apply Drawn0.step)⟩
 rw [if_neg c4] at H
 have c4b0:decide (a1 ≤ a0) = false:=decide_eq_false c4
 clear c4
 obtain rfl:=Option.some.inj H
 go_enter Try.func61,Try.ntmps61
 go_wp2
 go_ret
 exact ⟨by first | rfl | (simp;done) | (simp [*];done),by repeat (first | exact Drawn0.refl _ | apply Drawn0.step)⟩
end Go.Proofs.Ythpahlkhiknofaa.G
namespace Go.Proofs.Ythpahlkhiknofaa.G
open Go Go.RowKit Go.Proofs.YthpahlkhiknofaaW.PrintWords
def bits_Len.f (a0:Int):Option Int:=if 0 ≤ a0 ∧ a0 ≤ 18446744073709551615 then some (Lib.bitLen a0.toNat:Int) else none
theorem bits_Len.calls (a0:Int) (r:Int) (w:World) (h:bits_Len.f a0 = some r):Calls Try.prog 94 #[.int .u64 a0] w fun e w'=>e = .returned (.int .i64 r) ∧ Below w.heap.size w w':=by
 unfold bits_Len.f at h
 by_cases hb:0 ≤ a0 ∧ a0 ≤ 18446744073709551615
 case neg =>
  rw [if_neg hb] at h;cases h
 rw [if_pos hb] at h
 obtain rfl:=Option.some.inj h
 refine (Try.bits_Len a0 w hb.1 hb.2).mono fun e w' he=>?_
 obtain ⟨rfl,rfl⟩:=he
 exact ⟨rfl,Below.refl _ _⟩
end Go.Proofs.Ythpahlkhiknofaa.G
namespace Go.Proofs.Ythpahlkhiknofaa.G
open Go.RowKit Go.Proofs.YthpahlkhiknofaaW.PrintWords Go.Proofs.YthpahlkhiknofaaW.PrintLast Go.Proofs.YthpahlkhiknofaaW.PrintMore
set_option maxHeartbeats 8000000
set_option maxRecDepth 100000
attribute [local go_sem] max2_int min2_int max_two min_two max_three min_three max_four min_four   -- for this text's walks alone
def card_newFunction_1.f (a0:Int):Option (Bool):=if a0 = 48 then (some false) else (if a0 = 49 then (some false) else (some (a0 != 45)))
theorem card_newFunction_1.calls (a0:Int) (r:Bool) (w:World) (h:card_newFunction_1.f a0 = some r) :
  Calls Try.prog 96 #[.int .i32 a0] w fun e w'=>e = .returned (.bool r) ∧ Drawn0 w w':=by
 have H:(if a0 = 48 then (some false) else (if a0 = 49 then (some false) else (some (a0 != 45)))) = some r:=h
 clear h
 by_cases c2:a0 = 48
 ·rw [if_pos c2] at H
  have c2b0:(a0 == 48) = true:=beq_iff_eq.mpr c2
  have c2b1:(a0 != 48) = false:=bne_eq_false_iff_eq.mpr c2
  clear c2
  obtain rfl:=Option.some.inj H
  go_enter Try.func96,Try.ntmps96
  go_wp2
  go_ret
  exact ⟨by first | rfl | (simp;done) | (simp [*];done),by repeat (first | exact Drawn0.refl _ | apply Drawn0.step)⟩
 rw [if_neg c2] at H
 have c2b0:(a0 == 48) = false:=beq_eq_false_iff_ne.mpr c2
 have c2b1:(a0 != 48) = true:=bne_iff_ne.mpr c2
 by_cases c3:a0 = 49
 case neg =>
  rw [if_neg c3] at H
  have c3b0:(a0 == 49) = false:=beq_eq_false_iff_ne.mpr c3
  have c3b1:(a0 != 49) = true:=bne_iff_ne.mpr c3
  obtain rfl:=Option.some.inj H
  go_enter Try.func96,Try.ntmps96
  go_wp2
  go_ret
  exact ⟨by first | rfl | (simp;done) | (simp [*];done),by repeat (first | exact Drawn0.refl _ | apply Drawn0.step)⟩
 rw [if_pos c3] at H
 have c3b0:(a0 == 49) = true:=beq_iff_eq.mpr c3
 have c3b1:(a0 != 49) = false:=bne_eq_false_iff_eq.mpr c3
 clear c3
 obtain rfl:=Option.some.inj H
 go_enter Try.func96,Try.ntmps96
 go_wp2
 go_ret
 exact ⟨by first | rfl | (simp;done) | (simp [*];done),by repeat (first | exact Drawn0.refl _ | apply Drawn0.step)⟩
def card_newFunction_1.Pure:Prop:=∀ (a0:Int),(Lit.int .i32 a0).wf = true → card_newFunction_1.f a0 = some true
theorem card_newFunction_1.walk (P:card_newFunction_1.Pure) (a0:Int) (w:World) (w0:(Lit.int .i32 a0).wf = true) :
  Calls Try.prog 96 #[.int .i32 a0] w fun e w'=>e = .returned (.bool true) ∧ Below w.heap.size w w':=by
 have h:=P a0 w0
 refine (card_newFunction_1.calls a0 true w h).mono ?_
 rintro e w' ⟨rfl,hd⟩
 exact ⟨rfl,hd.below⟩
end Go.Proofs.Ythpahlkhiknofaa.G
namespace Go.Proofs.Ythpahlkhiknofaa.P
open Go Go.RowKit Go.Proofs.YthpahlkhiknofaaW.PrintWords
def badN (x:Nat):Bool:=!(decide (x = 48) || decide (x = 49) || decide (x = 45))
theorem get_bt {s:ByteArray} {i:Nat} (h:i < s.size):(s.get! i).toNat = (bt s (i:Int)).toNat:=by
 rw [bt_get h,Int.toNat_natCast]
 congr 1
 show s.data[i]! = s.data[i]
 rw [getElem!_pos]
theorem decode_low {s:ByteArray} {i:Nat} (h:(s.get! i).toNat < 128):Utf8.decode s i = ((s.get! i).toNat,1):=by
 unfold Utf8.decode
 simp only [Nat.add_zero]
 rw [if_pos h]
theorem decode_high {s:ByteArray} {i:Nat} (h:¬ (s.get! i).toNat < 128):128 ≤ (Utf8.decode s i).1:=by
 unfold Utf8.decode
 simp only [Nat.add_zero]
 rw [if_neg h]
 have e:128 ≤ Utf8.runeError:=by decide
 split
 ·split
  ·assumption
  exact e
 split
 ·split
  ·rename_i h2
   rw [Bool.and_eq_true,decide_eq_true_eq] at h2
   show 128 ≤ _
   have:=h2.1
   simp only at this ⊢
   omega
  exact e
 split
 ·split
  ·rename_i h2
   rw [Bool.and_eq_true,decide_eq_true_eq] at h2
   have:=h2.1
   simp only at this ⊢
   omega
  exact e
 exact e
theorem idx_bad (s:ByteArray):∀ f pos,s.size - pos ≤ f → decide (0 ≤ Lib.idxFuncFrom badN true s f pos) = !allF (isC s) (s.size - pos) pos
 | 0,pos,h=>by
  have e:s.size - pos = 0:=by omega
  rw [e];rfl
 | f + 1,pos,h=>by
  rw [Lib.idxFuncFrom]
  by_cases hp:pos < s.size
  case neg =>
   rw [if_neg hp]
   have e:s.size - pos = 0:=by omega
   rw [e];rfl
  rw [if_pos hp]
  obtain ⟨d,hd⟩:∃ d,s.size - pos = d + 1:=⟨s.size - pos - 1,by omega⟩
  have hd2:s.size - (pos + 1) = d:=by omega
  rw [hd,allF]
  have hg:=get_bt hp
  have hr:=bt_range s (pos:Int)
  by_cases hl:(s.get! pos).toNat < 128
  case neg =>
   have h2:=decode_high hl
   have hb:badN (Utf8.decode s pos).1 = true:=by
    unfold badN
    rw [decide_eq_false (by omega),decide_eq_false (by omega),decide_eq_false (by omega)];rfl
   rw [hb,if_pos rfl]
   have hc':isC s pos = false:=by
    unfold isC
    exact decide_eq_false (by omega)
   rw [hc',Bool.false_and]
   exact decide_eq_true (by omega)
  rw [decode_low hl]
  have hb:badN (s.get! pos).toNat = !isC s pos:=by
   unfold badN isC
   rw [hg]
   congr 1
   rw [Bool.eq_iff_iff]
   simp only [Bool.or_eq_true,decide_eq_true_eq]
   omega
  simp only [hb]
  by_cases hc:isC s pos = true
  ·rw [hc,if_neg (by decide),Bool.true_and,idx_bad s f (pos + 1) (by omega),hd2]
  have hc':isC s pos = false:=by simpa using hc
  rw [hc',if_pos (by decide),Bool.false_and]
  exact decide_eq_true (by omega)
end Go.Proofs.Ythpahlkhiknofaa.P
namespace Go.Proofs.Ythpahlkhiknofaa.G
open Go Go.RowKit Go.Proofs.YthpahlkhiknofaaW.PrintWords
def contains96.f (a0:ByteArray):Option Bool:=some (!P.okC a0)
theorem contains96.calls (a0:ByteArray) (r:Bool) (w:World) (h:contains96.f a0 = some r):Calls Try.prog 95 #[.string a0,.func (.func 96) #[] #[]] w fun e w'=>e = .returned (.bool r) ∧ Below w.heap.size w w':=by
 obtain rfl:=Option.some.inj h
 refine (Try.strings_ContainsFunc_grows 96 #[] (enters_of Try.func96 (by kernel_rfl) rfl) P.badN a0 w (fun W x _ _=>?_)).mono fun e w' he=>?_
 ·refine (card_newFunction_1.calls (x:Int) (P.badN x) W ?_).mono fun e w' he=>⟨he.1,he.2.below⟩
  unfold card_newFunction_1.f P.badN
  by_cases h1:x = 48
  ·subst h1;rfl
  by_cases h2:x = 49
  ·subst h2;rfl
  rw [if_neg (by omega),if_neg (by omega),decide_eq_false h1,decide_eq_false h2]
  congr 1
  by_cases h3:x = 45
  ·subst h3;rfl
  rw [decide_eq_false h3]
  have:(x:Int) ≠ 45:=by omega
  simpa using this
 obtain ⟨rfl,hb⟩:=he
 refine ⟨?_,hb⟩
 have:=P.idx_bad a0 a0.size 0 (by omega)
 unfold Lib.idxFunc
 rw [this];rfl
end Go.Proofs.Ythpahlkhiknofaa.G
namespace Go.Proofs.Ythpahlkhiknofaa.G
open Go.RowKit Go.Proofs.YthpahlkhiknofaaW.PrintWords Go.Proofs.YthpahlkhiknofaaW.PrintLast Go.Proofs.YthpahlkhiknofaaW.PrintMore
set_option maxHeartbeats 8000000
set_option maxRecDepth 100000
attribute [local go_sem] max2_int min2_int max_two min_two max_three min_three max_four min_four   -- for this text's walks alone
def card_newFunction.f (a0:ByteArray):Option (Int × ByteArray × Bool):=(bits_Len.f (IntKind.u64.wrap ((a0.size:Int)))).bind fun t110=>((card_within.f (wrap64 (t110 - 1)) 1 5).bind fun t111=>(if t111 = true then (if 0 ≤ (wrap64 (t110 - 1)) then (if (a0.size:Int) = (shl .i64 1 (wrap64 (t110 - 1))) then ((contains96.f a0).bind fun t112=>(some (wrap64 (t110 - 1),a0,!t112))) else (some (wrap64 (t110 - 1),a0,false))) else (none)) else (some (wrap64 (t110 - 1),a0,false))))
theorem card_newFunction.calls (a0:ByteArray) (r1:Int) (r2:ByteArray) (r3:Bool) (w:World) (h:card_newFunction.f a0 = some (r1,r2,r3)) :
  Calls Try.prog 65 #[.string a0] w fun e w'=>e = .returned (.tuple #[.agg #[.int .i64 r1,.string r2],.bool r3]) ∧ Below w.heap.size w w':=by
 have hu81:=Try.underlying81
 have HB:=Aside0.mk (Below.refl w.heap.size w)
 have H:((bits_Len.f (IntKind.u64.wrap ((a0.size:Int)))).bind fun t110=>((card_within.f (wrap64 (t110 - 1)) 1 5).bind fun t111=>(if t111 = true then (if 0 ≤ (wrap64 (t110 - 1)) then (if (a0.size:Int) = (shl .i64 1 (wrap64 (t110 - 1))) then ((contains96.f a0).bind fun t112=>(some (wrap64 (t110 - 1),a0,!t112))) else (some (wrap64 (t110 - 1),a0,false))) else (none)) else (some (wrap64 (t110 - 1),a0,false))))) = some (r1,r2,r3):=h
 clear h
 replace H:=Option.bind_eq_some_iff.mp H
 obtain ⟨t110,A20,H⟩:=H
 replace H:((card_within.f (wrap64 (t110 - 1)) 1 5).bind fun t111=>(if t111 = true then (if 0 ≤ (wrap64 (t110 - 1)) then (if (a0.size:Int) = (shl .i64 1 (wrap64 (t110 - 1))) then ((contains96.f a0).bind fun t112=>(some (wrap64 (t110 - 1),a0,!t112))) else (some (wrap64 (t110 - 1),a0,false))) else (none)) else (some (wrap64 (t110 - 1),a0,false)))) = some (r1,r2,r3):=H
 have A2:=Aside0.mk A20
 clear A20
 replace H:=Option.bind_eq_some_iff.mp H
 obtain ⟨t111,A30,H⟩:=H
 replace H:(if t111 = true then (if 0 ≤ (wrap64 (t110 - 1)) then (if (a0.size:Int) = (shl .i64 1 (wrap64 (t110 - 1))) then ((contains96.f a0).bind fun t112=>(some (wrap64 (t110 - 1),a0,!t112))) else (some (wrap64 (t110 - 1),a0,false))) else (none)) else (some (wrap64 (t110 - 1),a0,false))) = some (r1,r2,r3):=H
 have A3:=Aside0.mk A30
 clear A30
 by_cases c4:t111 = true
 case neg =>
  replace c4:=Bool.eq_false_iff.mpr c4
  subst c4
  have H1:(some (wrap64 (t110 - 1),a0,false)) = some (r1,r2,r3):=by rw [if_neg (show ¬ (false = true) by decide)] at H;exact H
  clear H
  have H:=H1
  clear H1
  simp only [Option.some.injEq,Prod.mk.injEq] at H
  obtain ⟨rfl,rfl,rfl⟩:=H
  go_enter Try.func65,Try.ntmps65
  go_wp2_with (first | ((with_reducible refine gate_dst (N:=2) rfl ?_);(try (refine gate_guard (by rfl) ?_;dsimp only));refine box_event ?hg (N:=2) ?hd (cs:=#[.int .i64 0,.string (⟨#[]⟩:ByteArray)]) (t:=81) ?hr ?_;(case hd=>rfl);(case hg=>rfl);(case hr=>first | (go_simp;done) | (go_simp;rfl));intro gb109 hg w17 hbox hb;have n0_:=Aside0.mk (below_step (by repeat (first | (with_reducible first | exact HB.out | apply below_alloc | apply pw_below_drewN | apply below_drew1) | exact HB.out)) hb);have n1_:=Aside0.mk (hbox);have n2_:=Aside0.mk ((by rw [hg];exact (below_size (by repeat (first | (with_reducible first | exact HB.out | apply below_alloc | apply pw_below_drewN | apply below_drew1) | exact HB.out))):w.heap.size ≤ gb109));have n3_:=Aside0.mk ((by rw [hg];exact (below_size (by repeat (first | (with_reducible first | exact HB.out | apply below_alloc | apply pw_below_drewN | apply below_drew1) | exact HB.out))):w.heap.size ≤ gb109));clear HB;have HB:=n0_;have BK109:=n1_;have GW109:=n2_;have GE109:=n3_;clear n0_ n1_ n2_ n3_;clear hb hbox hg) | ((with_reducible refine gate_callee (f:=94) rfl ?_);refine goesL_ (some 9) rfl rfl Try.func94 (by kernel_rfl) rfl #[.int .u64 (IntKind.u64.wrap ((a0.size:Int)))] rfl (by (try simp only [List.map_toArray,List.map_cons,List.map_nil]);first | done | rfl | (simp only [List.length_drop,List.length_take];rfl)) ?_;(with_reducible refine (bits_Len.calls (IntKind.u64.wrap ((a0.size:Int))) t110 _ A2.out).mono ?_);rintro e w18 ⟨rfl,hb⟩;refine ⟨_,rfl,?_⟩;have n0_:=Aside0.mk (blk_below (g:=gb109) (o:=.cells #[.int .i64 0,.string (⟨#[]⟩:ByteArray)] 81 (0,0)) (by (with_reducible repeat (first | refine blk_drewN ?_ _ | refine blk_drew ?_ | refine blk_alloc ?_ _));exact BK109.out) hb);have n1_:=Aside0.mk (below_step (by repeat (first | (with_reducible first | exact HB.out | apply below_alloc | apply pw_below_drewN | apply below_drew1 | refine below_set ?_ GE109.out) | exact HB.out)) hb);clear BK109;clear HB;have BK109:=n0_;have HB:=n1_;clear n0_ n1_;(try clear hb)) | ((with_reducible refine gate_callee (f:=61) rfl ?_);refine goesL_ (some 12) rfl rfl Try.func61 (by kernel_rfl) rfl #[.int .i64 (wrap64 (t110 - 1)),.int .i64 1,.int .i64 5] rfl (by (try simp only [List.map_toArray,List.map_cons,List.map_nil]);first | done | rfl | (simp only [List.length_drop,List.length_take];rfl)) ?_;(with_reducible refine (card_within.calls (wrap64 (t110 - 1)) 1 5 false _ A3.out).mono ?_);rintro e w' ⟨rfl,⟨nd,rfl⟩⟩;refine ⟨_,rfl,?_⟩;(try (rw [drewN_self w18];generalize hq_:World.drewN w18 _ = w18;have n0_:Aside0 (w18.heap[gb109]? = some (.cells #[.int .i64 0,.string (⟨#[]⟩:ByteArray)] 81 (0,0))):=⟨by rw [← hq_];exact (by (with_reducible repeat (first | refine blk_drewN ?_ _ | refine blk_drew ?_ | refine blk_alloc ?_ _));exact BK109.out)⟩;have n1_:Aside0 (Below w.heap.size w w18):=⟨by rw [← hq_];exact (by repeat (first | (with_reducible first | exact HB.out | apply below_alloc | apply pw_below_drewN | apply below_drew1 | refine below_set ?_ GE109.out) | exact HB.out))⟩;clear BK109 HB hq_;have BK109:=n0_;have HB:=n1_;clear n0_ n1_));have hcz19_0:w18.cell? ⟨gb109,0,none⟩ = some (.int .i64 0):=(blk_cell BK109.out 0).trans rfl;have hcz19_1:w18.cell? ⟨gb109,1,none⟩ = some (.string (⟨#[]⟩:ByteArray)):=(blk_cell BK109.out 1).trans rfl;have hfz19_0:=blk_frozen BK109.out 0;have hfz19_1:=blk_frozen BK109.out 1))
  refine bodyPost_ret (results_ct rfl _ _ gb109 81 #[.int .i64 (wrap64 (t110 - 1)),.string a0] (0,0) _ rfl (by (with_reducible repeat (first | refine blk_drewN ?_ _ | refine blk_drew ?_ | refine blk_alloc ?_ _));refine blk_put (cs:=#[.int .i64 (wrap64 (t110 - 1)),.string (⟨#[]⟩:ByteArray)]) ?_ 1 _ rfl;(with_reducible repeat (first | refine blk_drewN ?_ _ | refine blk_drew ?_ | refine blk_alloc ?_ _));refine blk_put (cs:=#[.int .i64 0,.string (⟨#[]⟩:ByteArray)]) ?_ 0 _ rfl;(with_reducible repeat (first | refine blk_drewN ?_ _ | refine blk_drew ?_ | refine blk_alloc ?_ _));exact BK109.out) Try.underlying81 rfl (by kernel_rfl)) rfl ?_
  exact ⟨by first | rfl | (simp [errW_none,errW_some] <;> rfl) | (simp [*,errW_none,errW_some] <;> rfl),by repeat (first | (with_reducible first | exact HB.out | apply below_alloc | apply pw_below_drewN | apply below_drew1 | refine below_set ?_ GE109.out) | exact HB.out)⟩
 subst c4
 have H1:(if 0 ≤ (wrap64 (t110 - 1)) then (if (a0.size:Int) = (shl .i64 1 (wrap64 (t110 - 1))) then ((contains96.f a0).bind fun t112=>(some (wrap64 (t110 - 1),a0,!t112))) else (some (wrap64 (t110 - 1),a0,false))) else (none)) = some (r1,r2,r3):=by rw [if_pos rfl] at H;exact H
 clear H
 have H:=H1
 clear H1
 obtain ⟨ji5,hji5⟩:∃ j_:Int,(wrap64 (t110 - 1)) = j_:=⟨_,rfl⟩
 replace H:(if 0 ≤ (ji5) then (if (a0.size:Int) = (shl .i64 1 (ji5)) then ((contains96.f a0).bind fun t112=>(some (ji5,a0,!t112))) else (some (ji5,a0,false))) else (none)) = some (r1,r2,r3):=by first | (rw [hji5] at H;exact H) | (simp only [hji5] at H ⊢;exact H)
 (try rw [hji5] at A2)
 (try rw [hji5] at A3)
 have hji5w:(IntKind.i64.wrap (t110 - 1)) = ji5:=(i64_w _).trans hji5
 by_cases c6:0 ≤ (ji5)
 case neg =>
  rw [if_neg c6] at H
  exact absurd H (by simp)
 rw [if_pos c6] at H
 have c6b0:=eq_true c6
 have c6b1:decide (0 ≤ (ji5)) = true:=decide_eq_true c6
 clear c6
 obtain ⟨ji7,hji7⟩:∃ j_:Int,(shl .i64 1 (ji5)) = j_:=⟨_,rfl⟩
 replace H:(if (a0.size:Int) = (ji7) then ((contains96.f a0).bind fun t112=>(some (ji5,a0,!t112))) else (some (ji5,a0,false))) = some (r1,r2,r3):=by first | (rw [hji7] at H;exact H) | (simp only [hji7] at H ⊢;exact H)
 (try rw [hji7] at A2)
 (try rw [hji7] at A3)
 have hji7_:(IntKind.i64.wrap (1 * 2 ^ min (ji5).toNat 64)) = ji7:=hji7
 have hji7z:(ji5) ≤ 64 → (IntKind.i64.wrap (1 * 2 ^ (ji5).toNat)) = ji7:=shl_small hji7
 have hji7u:(IntKind.i64.wrap (2 ^ min (ji5).toNat 64)) = ji7:=by have h_:=hji7_;rw [Int.one_mul] at h_;exact h_
 have hji7v:(ji5) ≤ 64 → (IntKind.i64.wrap (2 ^ (ji5).toNat)) = ji7:=fun hle_=>by have h_:=hji7z hle_;rw [Int.one_mul] at h_;exact h_
 have hji7y:(wrap64 (1 * 2 ^ min (ji5).toNat 64)) = ji7:=(i64_w _).symm.trans hji7_
 have hji7x:(ji5) ≤ 64 → (wrap64 (1 * 2 ^ (ji5).toNat)) = ji7:=fun h_=>(i64_w _).symm.trans (hji7z h_)
 by_cases c8:(a0.size:Int) = (ji7)
 case neg =>
  rw [if_neg c8] at H
  have c8b0:((a0.size:Int) == (ji7)) = false:=beq_eq_false_iff_ne.mpr c8
  have c8b1:((a0.size:Int) != (ji7)) = true:=bne_iff_ne.mpr c8
  simp only [Option.some.injEq,Prod.mk.injEq] at H
  obtain ⟨rfl,rfl,rfl⟩:=H
  go_enter Try.func65,Try.ntmps65
  go_wp2_with (first | ((with_reducible refine gate_dst (N:=2) rfl ?_);(try (refine gate_guard (by rfl) ?_;dsimp only));refine box_event ?hg (N:=2) ?hd (cs:=#[.int .i64 0,.string (⟨#[]⟩:ByteArray)]) (t:=81) ?hr ?_;(case hd=>rfl);(case hg=>rfl);(case hr=>first | (go_simp;done) | (go_simp;rfl));intro gb109 hg w14 hbox hb;have n0_:=Aside0.mk (below_step (by repeat (first | (with_reducible first | exact HB.out | apply below_alloc | apply pw_below_drewN | apply below_drew1) | exact HB.out)) hb);have n1_:=Aside0.mk (hbox);have n2_:=Aside0.mk ((by rw [hg];exact (below_size (by repeat (first | (with_reducible first | exact HB.out | apply below_alloc | apply pw_below_drewN | apply below_drew1) | exact HB.out))):w.heap.size ≤ gb109));have n3_:=Aside0.mk ((by rw [hg];exact (below_size (by repeat (first | (with_reducible first | exact HB.out | apply below_alloc | apply pw_below_drewN | apply below_drew1) | exact HB.out))):w.heap.size ≤ gb109));clear HB;have HB:=n0_;have BK109:=n1_;have GW109:=n2_;have GE109:=n3_;clear n0_ n1_ n2_ n3_;clear hb hbox hg) | ((with_reducible refine gate_callee (f:=94) rfl ?_);refine goesL_ (some 9) rfl rfl Try.func94 (by kernel_rfl) rfl #[.int .u64 (IntKind.u64.wrap ((a0.size:Int)))] rfl (by (try simp only [List.map_toArray,List.map_cons,List.map_nil]);first | done | rfl | (simp only [List.length_drop,List.length_take];rfl)) ?_;(with_reducible refine (bits_Len.calls (IntKind.u64.wrap ((a0.size:Int))) t110 _ A2.out).mono ?_);rintro e w15 ⟨rfl,hb⟩;refine ⟨_,rfl,?_⟩;have n0_:=Aside0.mk (blk_below (g:=gb109) (o:=.cells #[.int .i64 0,.string (⟨#[]⟩:ByteArray)] 81 (0,0)) (by (with_reducible repeat (first | refine blk_drewN ?_ _ | refine blk_drew ?_ | refine blk_alloc ?_ _));exact BK109.out) hb);have n1_:=Aside0.mk (below_step (by repeat (first | (with_reducible first | exact HB.out | apply below_alloc | apply pw_below_drewN | apply below_drew1 | refine below_set ?_ GE109.out) | exact HB.out)) hb);clear BK109;clear HB;have BK109:=n0_;have HB:=n1_;clear n0_ n1_;(try clear hb)) | ((with_reducible refine gate_callee (f:=61) rfl ?_);refine goesL_ (some 12) rfl rfl Try.func61 (by kernel_rfl) rfl #[.int .i64 ji5,.int .i64 1,.int .i64 5] rfl (by (try simp only [List.map_toArray,List.map_cons,List.map_nil]);first | done | (simp only [hji5];rfl) | rfl | (simp only [List.length_drop,List.length_take];rfl)) ?_;(with_reducible refine (card_within.calls ji5 1 5 true _ A3.out).mono ?_);rintro e w' ⟨rfl,⟨nd,rfl⟩⟩;refine ⟨_,rfl,?_⟩;(try (rw [drewN_self w15];generalize hq_:World.drewN w15 _ = w15;have n0_:Aside0 (w15.heap[gb109]? = some (.cells #[.int .i64 0,.string (⟨#[]⟩:ByteArray)] 81 (0,0))):=⟨by rw [← hq_];exact (by (with_reducible repeat (first | refine blk_drewN ?_ _ | refine blk_drew ?_ | refine blk_alloc ?_ _));exact BK109.out)⟩;have n1_:Aside0 (Below w.heap.size w w15):=⟨by rw [← hq_];exact (by repeat (first | (with_reducible first | exact HB.out | apply below_alloc | apply pw_below_drewN | apply below_drew1 | refine below_set ?_ GE109.out) | exact HB.out))⟩;clear BK109 HB hq_;have BK109:=n0_;have HB:=n1_;clear n0_ n1_));have hcz16_0:w15.cell? ⟨gb109,0,none⟩ = some (.int .i64 0):=(blk_cell BK109.out 0).trans rfl;have hcz16_1:w15.cell? ⟨gb109,1,none⟩ = some (.string (⟨#[]⟩:ByteArray)):=(blk_cell BK109.out 1).trans rfl;have hfz16_0:=blk_frozen BK109.out 0;have hfz16_1:=blk_frozen BK109.out 1))
  refine bodyPost_ret (results_ct rfl _ _ gb109 81 #[.int .i64 ji5,.string a0] (0,0) _ rfl (by (with_reducible repeat (first | refine blk_drewN ?_ _ | refine blk_drew ?_ | refine blk_alloc ?_ _));refine blk_put (cs:=#[.int .i64 ji5,.string (⟨#[]⟩:ByteArray)]) ?_ 1 _ rfl;(with_reducible repeat (first | refine blk_drewN ?_ _ | refine blk_drew ?_ | refine blk_alloc ?_ _));refine blk_put (cs:=#[.int .i64 0,.string (⟨#[]⟩:ByteArray)]) ?_ 0 _ rfl;(with_reducible repeat (first | refine blk_drewN ?_ _ | refine blk_drew ?_ | refine blk_alloc ?_ _));exact BK109.out) Try.underlying81 rfl (by kernel_rfl)) rfl ?_
  exact ⟨by first | rfl | (simp [errW_none,errW_some] <;> rfl) | (simp only [← hji5,← hji7];first | rfl | (simp [errW_none,errW_some] <;> rfl)) | (simp [*,errW_none,errW_some] <;> rfl),by repeat (first | (with_reducible first | exact HB.out | apply below_alloc | apply pw_below_drewN | apply below_drew1 | refine below_set ?_ GE109.out) | exact HB.out)⟩
 rw [if_pos c8] at H
 have c8b0:((a0.size:Int) == (ji7)) = true:=beq_iff_eq.mpr c8
 have c8b1:((a0.size:Int) != (ji7)) = false:=bne_eq_false_iff_eq.mpr c8
 clear c8
 replace H:=Option.bind_eq_some_iff.mp H
 obtain ⟨t112,A90,H⟩:=H
 replace H:(some (ji5,a0,!t112)) = some (r1,r2,r3):=H
 have A9:=Aside0.mk A90
 clear A90
 simp only [Option.some.injEq,Prod.mk.injEq] at H
 obtain ⟨rfl,rfl,rfl⟩:=H
 go_enter Try.func65,Try.ntmps65
 go_wp2_with (first | ((with_reducible refine gate_dst (N:=2) rfl ?_);(try (refine gate_guard (by rfl) ?_;dsimp only));refine box_event ?hg (N:=2) ?hd (cs:=#[.int .i64 0,.string (⟨#[]⟩:ByteArray)]) (t:=81) ?hr ?_;(case hd=>rfl);(case hg=>rfl);(case hr=>first | (go_simp;done) | (go_simp;rfl));intro gb109 hg w10 hbox hb;have n0_:=Aside0.mk (below_step (by repeat (first | (with_reducible first | exact HB.out | apply below_alloc | apply pw_below_drewN | apply below_drew1) | exact HB.out)) hb);have n1_:=Aside0.mk (hbox);have n2_:=Aside0.mk ((by rw [hg];exact (below_size (by repeat (first | (with_reducible first | exact HB.out | apply below_alloc | apply pw_below_drewN | apply below_drew1) | exact HB.out))):w.heap.size ≤ gb109));have n3_:=Aside0.mk ((by rw [hg];exact (below_size (by repeat (first | (with_reducible first | exact HB.out | apply below_alloc | apply pw_below_drewN | apply below_drew1) | exact HB.out))):w.heap.size ≤ gb109));clear HB;have HB:=n0_;have BK109:=n1_;have GW109:=n2_;have GE109:=n3_;clear n0_ n1_ n2_ n3_;clear hb hbox hg) | ((with_reducible refine gate_callee (f:=94) rfl ?_);refine goesL_ (some 9) rfl rfl Try.func94 (by kernel_rfl) rfl #[.int .u64 (IntKind.u64.wrap ((a0.size:Int)))] rfl (by (try simp only [List.map_toArray,List.map_cons,List.map_nil]);first | done | rfl | (simp only [List.length_drop,List.length_take];rfl)) ?_;(with_reducible refine (bits_Len.calls (IntKind.u64.wrap ((a0.size:Int))) t110 _ A2.out).mono ?_);rintro e w11 ⟨rfl,hb⟩;refine ⟨_,rfl,?_⟩;have n0_:=Aside0.mk (blk_below (g:=gb109) (o:=.cells #[.int .i64 0,.string (⟨#[]⟩:ByteArray)] 81 (0,0)) (by (with_reducible repeat (first | refine blk_drewN ?_ _ | refine blk_drew ?_ | refine blk_alloc ?_ _));exact BK109.out) hb);have n1_:=Aside0.mk (below_step (by repeat (first | (with_reducible first | exact HB.out | apply below_alloc | apply pw_below_drewN | apply below_drew1 | refine below_set ?_ GE109.out) | exact HB.out)) hb);clear BK109;clear HB;have BK109:=n0_;have HB:=n1_;clear n0_ n1_;(try clear hb)) | ((with_reducible refine gate_callee (f:=61) rfl ?_);refine goesL_ (some 12) rfl rfl Try.func61 (by kernel_rfl) rfl #[.int .i64 ji5,.int .i64 1,.int .i64 5] rfl (by (try simp only [List.map_toArray,List.map_cons,List.map_nil]);first | done | (simp only [hji5];rfl) | rfl | (simp only [List.length_drop,List.length_take];rfl)) ?_;(with_reducible refine (card_within.calls ji5 1 5 true _ A3.out).mono ?_);rintro e w' ⟨rfl,⟨nd,rfl⟩⟩;refine ⟨_,rfl,?_⟩;(try (rw [drewN_self w11];generalize hq_:World.drewN w11 _ = w11;have n0_:Aside0 (w11.heap[gb109]? = some (.cells #[.int .i64 0,.string (⟨#[]⟩:ByteArray)] 81 (0,0))):=⟨by rw [← hq_];exact (by (with_reducible repeat (first | refine blk_drewN ?_ _ | refine blk_drew ?_ | refine blk_alloc ?_ _));exact BK109.out)⟩;have n1_:Aside0 (Below w.heap.size w w11):=⟨by rw [← hq_];exact (by repeat (first | (with_reducible first | exact HB.out | apply below_alloc | apply pw_below_drewN | apply below_drew1 | refine below_set ?_ GE109.out) | exact HB.out))⟩;clear BK109 HB hq_;have BK109:=n0_;have HB:=n1_;clear n0_ n1_))) | (go_at_call 95;(with_reducible refine (contains96.calls a0 t112 _ A9.out).mono ?_);rintro e w12 ⟨rfl,hb⟩;have n0_:=Aside0.mk (blk_below (g:=gb109) (o:=.cells #[.int .i64 0,.string (⟨#[]⟩:ByteArray)] 81 (0,0)) (by (with_reducible repeat (first | refine blk_drewN ?_ _ | refine blk_drew ?_ | refine blk_alloc ?_ _));exact BK109.out) hb);have n1_:=Aside0.mk (below_step (by repeat (first | (with_reducible first | exact HB.out | apply below_alloc | apply pw_below_drewN | apply below_drew1 | refine below_set ?_ GE109.out) | exact HB.out)) hb);clear BK109;clear HB;have BK109:=n0_;have HB:=n1_;clear n0_ n1_;(try clear hb);have hcz13_0:w12.cell? ⟨gb109,0,none⟩ = some (.int .i64 0):=(blk_cell BK109.out 0).trans rfl;have hcz13_1:w12.cell? ⟨gb109,1,none⟩ = some (.string (⟨#[]⟩:ByteArray)):=(blk_cell BK109.out 1).trans rfl;have hfz13_0:=blk_frozen BK109.out 0;have hfz13_1:=blk_frozen BK109.out 1))
 refine bodyPost_ret (results_ct rfl _ _ gb109 81 #[.int .i64 ji5,.string a0] (0,0) _ rfl (by (with_reducible repeat (first | refine blk_drewN ?_ _ | refine blk_drew ?_ | refine blk_alloc ?_ _));refine blk_put (cs:=#[.int .i64 ji5,.string (⟨#[]⟩:ByteArray)]) ?_ 1 _ rfl;(with_reducible repeat (first | refine blk_drewN ?_ _ | refine blk_drew ?_ | refine blk_alloc ?_ _));refine blk_put (cs:=#[.int .i64 0,.string (⟨#[]⟩:ByteArray)]) ?_ 0 _ rfl;(with_reducible repeat (first | refine blk_drewN ?_ _ | refine blk_drew ?_ | refine blk_alloc ?_ _));exact BK109.out) Try.underlying81 rfl (by kernel_rfl)) rfl ?_
 exact ⟨by first | rfl | (simp [errW_none,errW_some] <;> rfl) | (simp only [← hji5,← hji7];first | rfl | (simp [errW_none,errW_some] <;> rfl)) | (simp [*,errW_none,errW_some] <;> rfl),by repeat (first | (with_reducible first | exact HB.out | apply below_alloc | apply pw_below_drewN | apply below_drew1 | refine below_set ?_ GE109.out) | exact HB.out)⟩
def slices_Index_int_int.l0:Nat → List Int → Int → Int → Int → Option (Int)
 | 0,_,_,_,_=>none
 | k + 1,x0,x1,x7,x8=>if x8 < x7 then (if 0 ≤ x8 then (if x8 < (x0.length:Int) then (if x1 = (rd x0 x8) then (some x8) else (slices_Index_int_int.l0 k x0 x1 x7 (wrap64 (x8 + 1)))) else (none)) else (none)) else (some (-1))
def slices_Index_int_int.f (k:Nat) (l0:List Int) (a1:Int):Option (Int):=slices_Index_int_int.l0 k l0 a1 (l0.length:Int) 0
theorem slices_Index_int_int.mono_l:∀ k,(∀ y0 y1 y2 y3,LeO (slices_Index_int_int.l0 k y0 y1 y2 y3) (slices_Index_int_int.l0 (k + 1) y0 y1 y2 y3))
 | 0=>fun _ _ _ _ r h=>by simp [slices_Index_int_int.l0] at h
 | k + 1=>by
  have ih0:=slices_Index_int_int.mono_l k
  intro y0 y1 y2 y3
  unfold slices_Index_int_int.l0
  repeat' first
  | (with_reducible exact ih0 _ _ _ _)
  | (with_reducible exact LeO.refl _)
  | (with_reducible exact LeO.none _)
  | (with_reducible refine LeO.ite ?_ ?_)
  | (with_reducible refine LeO.bind ?_ (fun _=>?_))
  | exact ih0 _ _ _ _
  | exact LeO.none _
  | refine LeO.ite ?_ ?_
  | refine LeO.bind ?_ (fun _=>?_)
theorem slices_Index_int_int.mono:∀ a0 a1 k,LeO (slices_Index_int_int.f k a0 a1) (slices_Index_int_int.f (k + 1) a0 a1):=by
 intro a0 a1 k
 have ih0:=slices_Index_int_int.mono_l k
 unfold slices_Index_int_int.f
 repeat' first
   | (with_reducible exact ih0 _ _ _ _)
   | (with_reducible exact LeO.refl _)
   | (with_reducible exact LeO.none _)
   | (with_reducible refine LeO.ite ?_ ?_)
   | (with_reducible refine LeO.bind ?_ (fun _=>?_))
   | exact ih0 _ _ _ _
   | exact LeO.none _
   | refine LeO.ite ?_ ?_
   | refine LeO.bind ?_ (fun _=>?_)
theorem slices_Index_int_int.calls (k:Nat) (A0:Option Addr) (c0:Nat) (l0:List Int) (a1:Int) (r:Int) (w:World) (hr0:Kd.C (Kd.int .i64) w A0 l0.length l0) (hc0:l0.length ≤ c0) (h:slices_Index_int_int.f k l0 a1 = some r) :
  Calls Try.prog 102 #[.slice A0 l0.length c0,.int .i64 a1] w fun e w'=>e = .returned (.int .i64 r) ∧ Drawn0 w w':=by
 have HR0:=Aside0.mk hr0
 have HC0:=Aside0.mk hc0
 clear hr0 hc0
 have H:(slices_Index_int_int.l0 k l0 a1 (l0.length:Int) 0) = some r:=h
 clear h
 have H':=Aside0.mk H
 clear H
 go_enter Try.func102,Try.ntmps102
 go_wp2
 go_loopg [8] k (fun kq v8 w'=>∃ (x8_1:Int),v8 = .int .i64 x8_1 ∧ Aside0 (slices_Index_int_int.l0 kq l0 a1 (l0.length:Int) x8_1 = some r) ∧ Aside0 (kq ≤ k) ∧ Drawn0 w w')
 case atStart=>exact ⟨(0),(by first | rfl | (simp;done) | (simp [*];done)),H',⟨Nat.le_refl _⟩,by repeat (first | exact Drawn0.refl _ | apply Drawn0.step)⟩
 case round =>
  clear H'
  try clear c1
  try clear p2
  obtain ⟨x8_1,rfl,HA,HK1,⟨m1,rfl⟩⟩:=hrel
  cases gk with
  | zero=>exact absurd HA.out (by simp [slices_Index_int_int.l0])
  | succ k1 =>
   have H:=HA.out
   clear HA
   simp only [slices_Index_int_int.l0] at H
   by_cases c3:x8_1 < (l0.length:Int)
   case neg =>
    rw [if_neg c3] at H
    have c3b0:decide (x8_1 < (l0.length:Int)) = false:=decide_eq_false c3
    clear c3
    obtain rfl:=Option.some.inj H
    go_wp2
    go_ret
    exact ⟨by first | rfl | (simp;done) | (simp [*];done),by repeat (first | exact Drawn0.refl _ | apply Drawn0.step)⟩
   rw [if_pos c3] at H
   have c3b0:decide (x8_1 < (l0.length:Int)) = true:=decide_eq_true c3
   clear c3
   by_cases c4:0 ≤ x8_1
   case neg =>
    rw [if_neg c4] at H
    exact absurd H (by simp)
   rw [if_pos c4] at H
   have c4b0:decide (0 ≤ x8_1) = true:=decide_eq_true c4
   clear c4
   by_cases c5:x8_1 < (l0.length:Int)
   case neg =>
    rw [if_neg c5] at H
    exact absurd H (by simp)
   rw [if_pos c5] at H
   have c5b0:decide (x8_1 < (l0.length:Int)) = true:=decide_eq_true c5
   clear c5
   by_cases c6:a1 = (rd l0 x8_1)
   ·rw [if_pos c6] at H
    have c6b0:(a1 == (rd l0 x8_1)) = true:=beq_iff_eq.mpr c6
    have c6b1:(a1 != (rd l0 x8_1)) = false:=bne_eq_false_iff_eq.mpr c6
    clear c6
    obtain rfl:=Option.some.inj H
    have p277:0 ≤ (x8_1:Int):=of_decide_eq_true (by first | (with_reducible assumption) | assumption)
    have q277:x8_1 < (l0.length:Int):=of_decide_eq_true (by first | (with_reducible assumption) | assumption)
    obtain ⟨ad277,e277,hx277_0⟩:=Kd.at_int HR0.out x8_1 p277 q277
    cases e277
    replace p277:=eq_true p277
    replace q277:=eq_true q277
    go_wp2
    go_ret
    exact ⟨by first | rfl | (simp;done) | (simp [*];done),by repeat (first | exact Drawn0.refl _ | apply Drawn0.step)⟩
   rw [if_neg c6] at H
   have c6b0:(a1 == (rd l0 x8_1)) = false:=beq_eq_false_iff_ne.mpr c6
   have c6b1:(a1 != (rd l0 x8_1)) = true:=bne_iff_ne.mpr c6
   have H':=Aside0.mk H
   clear H
   have p277:0 ≤ (x8_1:Int):=of_decide_eq_true (by first | (with_reducible assumption) | assumption)
   have q277:x8_1 < (l0.length:Int):=of_decide_eq_true (by first | (with_reducible assumption) | assumption)
   obtain ⟨ad277,e277,hx277_0⟩:=Kd.at_int HR0.out x8_1 p277 q277
   cases e277
   replace p277:=eq_true p277
   replace q277:=eq_true q277
   go_wp2
   go_roundg k1
   case measure=>have:=HK1.out;omega
   case rel=>exact ⟨(wrap64 (x8_1 + 1)),(by first | rfl | (simp;done) | (simp [*];done)),H',⟨by have:=HK1.out;omega⟩,by repeat (first | exact Drawn0.refl _ | apply Drawn0.step)⟩
def slices_Contains_int_int.f (k:Nat) (l0:List Int) (a1:Int):Option (Bool):=(slices_Index_int_int.f k l0 a1).bind fun t278=>(some (decide (t278 ≥ 0)))
theorem slices_Contains_int_int.mono:∀ a0 a1 k,LeO (slices_Contains_int_int.f k a0 a1) (slices_Contains_int_int.f (k + 1) a0 a1):=by
 intro a0 a1 k
 unfold slices_Contains_int_int.f
 repeat' first
   | (with_reducible exact slices_Index_int_int.mono _ _ _)
   | (with_reducible exact LeO.refl _)
   | (with_reducible exact LeO.none _)
   | (with_reducible refine LeO.ite ?_ ?_)
   | (with_reducible refine LeO.bind ?_ (fun _=>?_))
   | exact slices_Index_int_int.mono _ _ _
   | exact LeO.none _
   | refine LeO.ite ?_ ?_
   | refine LeO.bind ?_ (fun _=>?_)
theorem slices_Contains_int_int.calls (k:Nat) (A0:Option Addr) (c0:Nat) (l0:List Int) (a1:Int) (r:Bool) (w:World) (hr0:Kd.C (Kd.int .i64) w A0 l0.length l0) (hc0:l0.length ≤ c0) (h:slices_Contains_int_int.f k l0 a1 = some r) :
  Calls Try.prog 72 #[.slice A0 l0.length c0,.int .i64 a1] w fun e w'=>e = .returned (.bool r) ∧ Drawn0 w w':=by
 have HR0:=Aside0.mk hr0
 have HC0:=Aside0.mk hc0
 clear hr0 hc0
 have H:((slices_Index_int_int.f k l0 a1).bind fun t278=>(some (decide (t278 ≥ 0)))) = some r:=h
 clear h
 replace H:=Option.bind_eq_some_iff.mp H
 obtain ⟨t278,A30,H⟩:=H
 replace H:(some (decide (t278 ≥ 0))) = some r:=H
 have A3:=Aside0.mk A30
 clear A30
 obtain rfl:=Option.some.inj H
 go_enter Try.func72,Try.ntmps72
 go_wp2_with (first | ((with_reducible refine gate_callee (f:=102) rfl ?_);refine goesL_ (some 7) rfl rfl Try.func102 (by kernel_rfl) rfl #[.slice A0 l0.length c0,.int .i64 a1] rfl (by (try simp only [List.map_toArray,List.map_cons,List.map_nil]);first | done | rfl | (simp only [List.length_drop,List.length_take];rfl)) ?_;(with_reducible refine (slices_Index_int_int.calls k _ _ l0 a1 t278 _ ?side1 ?side2 A3.out).mono ?_);(case side1=>repeat (first | exact HR0.out | (with_reducible refine Kd.C_alloc ?_ _) | (with_reducible refine Kd.C_drewN ?_ _) | (with_reducible refine Kd.C_drew ?_)));(case side2=>exact HC0.out);rintro e w' ⟨rfl,⟨nd,rfl⟩⟩;refine ⟨_,rfl,?_⟩))
 go_ret
 exact ⟨by first | rfl | (simp;done) | (simp [*];done),by repeat (first | exact Drawn0.refl _ | apply Drawn0.step)⟩
end Go.Proofs.Ythpahlkhiknofaa.G
set_option linter.unusedSectionVars false
namespace Go.Proofs.Ythpahlkhiknofaa.P
open Go Go.RowKit Go.Proofs.Ythpahlkhiknofaa.M Go.Proofs.Ythpahlkhiknofaa.G
open Go.Proofs.YthpahlkhiknofaaW.PrintWords Go.Proofs.YthpahlkhiknofaaW.PrintMore
def lg (s:Nat):Nat:=if s = 2 then 1 else if s = 4 then 2 else if s = 8 then 3 else if s = 16 then 4 else if s = 32 then 5 else 0
theorem lg_table:∀ s:Fin 41,(lg s.val = 0 → ¬ (2 ≤ Lib.bitLen s.val ∧ Lib.bitLen s.val ≤ 6 ∧ s.val = 2 ^ (Lib.bitLen s.val - 1))) ∧ (lg s.val ≠ 0 → Lib.bitLen s.val = lg s.val + 1 ∧ s.val = 2 ^ lg s.val ∧ lg s.val ≤ 5) ∧ Lib.bitLen s.val ≤ 6:=by decide +kernel
/-- The number of variables of a function;0: it is none. -/
def fnN (c:ByteArray):Nat:=if okC c = true then lg c.size else 0
theorem fnN_pos {c:ByteArray} (hc:c.size ≤ 40) (h:fnN c ≠ 0):okC c = true ∧ c.size = 2 ^ fnN c ∧ 1 ≤ fnN c ∧ fnN c ≤ 5 ∧ c.size ≤ 32:=by
  unfold fnN at h ⊢
  by_cases ho:okC c = true
  · rw [if_pos ho] at h ⊢
    have:=(lg_table ⟨c.size,by omega⟩).2.1 h
    simp only at this
    have h2:2 ^ lg c.size ≤ 2 ^ 5:=Nat.pow_le_pow_right (by decide) this.2.2
    exact ⟨ho,this.2.1,by omega,this.2.2,by omega⟩
  · rw [if_neg ho] at h;exact absurd rfl h
section
variable {c:ByteArray} (hc:c.size ≤ 40)
include hc
theorem newF:∃ m:Int,(fnN c ≠ 0 → m = (fnN c:Int)) ∧ card_newFunction.f c = some (m,c,decide (fnN c ≠ 0)):=by
  have ht:=lg_table ⟨c.size,by omega⟩
  simp only at ht
  have hu:IntKind.u64.wrap (c.size:Int) = (c.size:Int):=wrap_u64_nat _ (by omega)
  have hb:bits_Len.f (c.size:Int) = some (Lib.bitLen c.size:Int):=by
    unfold bits_Len.f
    rw [if_pos (by omega),Int.toNat_natCast]
  have hw:wrap64 ((Lib.bitLen c.size:Int) - 1) = (Lib.bitLen c.size:Int) - 1:=wrap_id (by omega) (by omega)
  unfold card_newFunction.f
  rw [hu,hb,Option.bind_some,hw]
  unfold card_within.f
  by_cases hl:lg c.size = 0
  · have hn:fnN c = 0:=by unfold fnN;rw [hl];split <;> rfl
    have h1:=ht.1 hl
    refine ⟨(Lib.bitLen c.size:Int) - 1,fun h=>absurd hn h,?_⟩
    have hd:decide (fnN c ≠ 0) = false:=by rw [hn];rfl
    rw [hd]
    by_cases a1:(Lib.bitLen c.size:Int) - 1 ≥ 1
    · rw [if_pos a1,Option.bind_some]
      by_cases a2:(Lib.bitLen c.size:Int) - 1 ≤ 5
      · rw [if_pos (decide_eq_true a2),if_pos (by omega)]
        have e:(Lib.bitLen c.size:Int) - 1 = ((Lib.bitLen c.size - 1:Nat):Int):=by omega
        rw [e,shl_one (by omega),if_neg (fun h=>h1 ⟨by omega,by omega,by exact_mod_cast h⟩)]
      · rw [if_neg (by rw [decide_eq_false a2];decide)]
    · rw [if_neg a1,Option.bind_some,if_neg (by decide)]
  · obtain ⟨h1,h2,h3⟩:=ht.2.1 hl
    have e:(Lib.bitLen c.size:Int) - 1 = (lg c.size:Int):=by omega
    rw [e,if_pos (by omega),Option.bind_some,if_pos (decide_eq_true (by omega)),if_pos (by omega),shl_one (by omega),if_pos (by exact_mod_cast h2)]
    refine ⟨(lg c.size:Int),fun h=>?_,?_⟩
    · unfold fnN at h ⊢
      by_cases ho:okC c = true
      · rw [if_pos ho]
      · rw [if_neg ho] at h;exact absurd rfl h
    · unfold contains96.f
      rw [Option.bind_some,Bool.not_not]
      congr 3
      unfold fnN
      by_cases ho:okC c = true
      · rw [if_pos ho,ho,decide_eq_true hl]
      · have ho':okC c = false:=by simpa using ho
        rw [if_neg ho,ho'];rfl
end
theorem index_l0 {l:List Int} (hl:l.length ≤ 1000000) (q:Int):∀ d i,i + d = l.length → ∃ r:Int,(decide (r ≥ 0) = decide (q ∈ l.drop i)) ∧ Ev (fun k=>slices_Index_int_int.l0 k l q (l.length:Int) (i:Int)) r:=by
  intro d
  induction d with
  | zero =>
    intro i hi
    refine ⟨-1,?_,Ev.step (f:=fun _=>some (-1)) (fun k=>?_) (Ev.now _)⟩
    · rw [List.drop_eq_nil_of_le (by omega)];simp
    · rw [slices_Index_int_int.l0,if_neg (by omega)]
  | succ d ih =>
    intro i hi
    have hil:i < l.length:=by omega
    by_cases h:q = l[i]
    · refine ⟨(i:Int),?_,Ev.step (f:=fun _=>some (i:Int)) (fun k=>?_) (Ev.now _)⟩
      · rw [List.drop_eq_getElem_cons hil,decide_eq_true (by omega),decide_eq_true (by rw [h];exact List.mem_cons_self ..)]
      · rw [slices_Index_int_int.l0,if_pos (by omega),if_pos (by omega),if_pos (by omega),rd_get hil,if_pos h]
    · obtain ⟨r,hr,e⟩:=ih (i + 1) (by omega)
      refine ⟨r,?_,Ev.step (fun k=>?_) e⟩
      · rw [hr,List.drop_eq_getElem_cons hil]
        congr 1
        exact propext ⟨fun hm=>List.mem_cons_of_mem _ hm,fun hm=>(List.mem_cons.1 hm).resolve_left h⟩
      · rw [slices_Index_int_int.l0,if_pos (by omega),if_pos (by omega),if_pos (by omega),rd_get hil,if_neg h,wrap_succ (by omega)]
theorem ev_containsI {l:List Int} (hl:l.length ≤ 1000000) (q:Int):Ev (fun k=>slices_Contains_int_int.f k l q) (decide (q ∈ l)):=by
  obtain ⟨r,hr,e⟩:=index_l0 hl q l.length 0 (by omega)
  unfold slices_Contains_int_int.f
  refine Ev.bind e ?_
  rw [List.drop_zero] at hr
  rw [← hr]
  exact Ev.now _
end Go.Proofs.Ythpahlkhiknofaa.P
namespace Go.Proofs.Ythpahlkhiknofaa.G
open Go Go.RowKit Go.Proofs.YthpahlkhiknofaaW.PrintWords
theorem slices_Contains_int_int.callsT (k:Nat) (A0:Option Addr) (c0:Nat) (l0:List Int) (n:Nat) (a1:Int) (r:Bool) (w:World) (hn:n ≤ l0.length) (hr0:Kd.C (Kd.int .i64) w A0 (l0.take n).length (l0.take n)) (hc0:(l0.take n).length ≤ c0) (h:slices_Contains_int_int.f k (l0.take n) a1 = some r) :
    Calls Try.prog 72 #[.slice A0 n c0,.int .i64 a1] w fun e w'=>e = .returned (.bool r) ∧ Drawn0 w w':=by
  have hl:(l0.take n).length = n:=by rw [List.length_take];omega
  have:=slices_Contains_int_int.calls k A0 c0 (l0.take n) a1 r w hr0 hc0 h
  rwa [hl] at this
end Go.Proofs.Ythpahlkhiknofaa.G
namespace Go.Proofs.Ythpahlkhiknofaa.G
open Go.RowKit Go.Proofs.YthpahlkhiknofaaW.PrintWords Go.Proofs.YthpahlkhiknofaaW.PrintLast Go.Proofs.YthpahlkhiknofaaW.PrintMore
set_option maxHeartbeats 8000000
set_option maxRecDepth 100000
attribute [local go_sem] max2_int min2_int max_two min_two max_three min_three max_four min_four   -- for this text's walks alone
def card_function_areVars.l0:Nat → List Int → List Int → Int → Int → Int → ByteArray → Option (Bool)
 | 0,_,_,_,_,_,_=>none
 | k + 1,x1,x7,x8,x9,x280000,x280001=>if x9 < x8 then (if 0 ≤ x9 then (if x9 < (x7.length:Int) then ((card_within.f (rd x7 x9) 0 (wrap64 (x280000 - 1))).bind fun t281=>(if t281 = true then (if x9 ≤ (x1.length:Int) then ((slices_Contains_int_int.f k (x1.take (x9:Int).toNat) (rd x7 x9)).bind fun t283=>(if t283 = true then (some false) else (card_function_areVars.l0 k x1 x7 x8 (wrap64 (x9 + 1)) x280000 x280001))) else (none)) else (some false))) else (none)) else (none)) else (some true)
def card_function_areVars.f (k:Nat) (a0_0:Int) (a0_1:ByteArray) (l1:List Int):Option (Bool):=card_function_areVars.l0 k l1 l1 (l1.length:Int) 0 a0_0 a0_1
theorem card_function_areVars.mono_l:∀ k,(∀ y0 y1 y2 y3 y4 y5,LeO (card_function_areVars.l0 k y0 y1 y2 y3 y4 y5) (card_function_areVars.l0 (k + 1) y0 y1 y2 y3 y4 y5))
 | 0=>fun _ _ _ _ _ _ r h=>by simp [card_function_areVars.l0] at h
 | k + 1=>by
  have ih0:=card_function_areVars.mono_l k
  intro y0 y1 y2 y3 y4 y5
  unfold card_function_areVars.l0
  repeat' first
  | (with_reducible exact ih0 _ _ _ _ _ _)
  | (with_reducible exact slices_Contains_int_int.mono _ _ _)
  | (with_reducible exact LeO.refl _)
  | (with_reducible exact LeO.none _)
  | (with_reducible refine LeO.ite ?_ ?_)
  | (with_reducible refine LeO.bind ?_ (fun _=>?_))
  | exact ih0 _ _ _ _ _ _
  | exact slices_Contains_int_int.mono _ _ _
  | exact LeO.none _
  | refine LeO.ite ?_ ?_
  | refine LeO.bind ?_ (fun _=>?_)
theorem card_function_areVars.mono:∀ a0 a1 a2 k,LeO (card_function_areVars.f k a0 a1 a2) (card_function_areVars.f (k + 1) a0 a1 a2):=by
 intro a0 a1 a2 k
 have ih0:=card_function_areVars.mono_l k
 unfold card_function_areVars.f
 repeat' first
   | (with_reducible exact ih0 _ _ _ _ _ _)
   | (with_reducible exact slices_Contains_int_int.mono _ _ _)
   | (with_reducible exact LeO.refl _)
   | (with_reducible exact LeO.none _)
   | (with_reducible refine LeO.ite ?_ ?_)
   | (with_reducible refine LeO.bind ?_ (fun _=>?_))
   | exact ih0 _ _ _ _ _ _
   | exact slices_Contains_int_int.mono _ _ _
   | exact LeO.none _
   | refine LeO.ite ?_ ?_
   | refine LeO.bind ?_ (fun _=>?_)
theorem card_function_areVars.calls (k:Nat) (a0_0:Int) (a0_1:ByteArray) (A1:Option Addr) (c1:Nat) (l1:List Int) (r:Bool) (w:World) (hr1:Kd.C (Kd.int .i64) w A1 l1.length l1) (hc1:l1.length ≤ c1) (h:card_function_areVars.f k a0_0 a0_1 l1 = some r) :
  Calls Try.prog 71 #[.agg #[.int .i64 a0_0,.string a0_1],.slice A1 l1.length c1] w fun e w'=>e = .returned (.bool r) ∧ Below w.heap.size w w':=by
 have hu81:=Try.underlying81
 have HR1:=Aside0.mk hr1
 have HC1:=Aside0.mk hc1
 clear hr1 hc1
 have HB:=Aside0.mk (Below.refl w.heap.size w)
 have H:(card_function_areVars.l0 k l1 l1 (l1.length:Int) 0 a0_0 a0_1) = some r:=h
 clear h
 have H':=Aside0.mk H
 clear H
 go_enter Try.func71,Try.ntmps71
 go_wp2_with (first | ((with_reducible refine gate_dst (N:=2) rfl ?_);refine box_event ?hg (N:=2) ?hd (cs:=#[.int .i64 a0_0,.string a0_1]) (t:=81) ?hr ?_;(case hd=>rfl);(case hg=>rfl);(case hr=>first | (go_simp;done) | (go_simp;rfl));intro gb279 hg w3 hbox hb;have n0_:=Aside0.mk (below_step (by repeat (first | (with_reducible first | exact HB.out | apply below_alloc | apply pw_below_drewN | apply below_drew1) | exact HB.out)) hb);have n1_:=Aside0.mk (hbox);have n2_:=Aside0.mk ((by rw [hg];exact (below_size (by repeat (first | (with_reducible first | exact HB.out | apply below_alloc | apply pw_below_drewN | apply below_drew1) | exact HB.out))):w.heap.size ≤ gb279));have n3_:=Aside0.mk ((by rw [hg];exact (below_size (by repeat (first | (with_reducible first | exact HB.out | apply below_alloc | apply pw_below_drewN | apply below_drew1) | exact HB.out))):w.heap.size ≤ gb279));clear HB;have HB:=n0_;have BK279:=n1_;have GW279:=n2_;have GE279:=n3_;clear n0_ n1_ n2_ n3_;clear hb hbox hg))
 go_loopg [9] k (fun kq v9 w'=>∃ (x9_1:Int),v9 = .int .i64 x9_1 ∧ Aside0 (card_function_areVars.l0 kq l1 l1 (l1.length:Int) x9_1 a0_0 a0_1 = some r) ∧ Aside0 (kq ≤ k) ∧ Aside0 (w'.heap[gb279]? = some (.cells #[.int .i64 a0_0,.string a0_1] 81 (0,0))) ∧ Aside0 (Below w.heap.size w w'))
 case atStart=>exact ⟨(0),(by first | rfl | (simp;done) | (simp [*];done)),H',⟨Nat.le_refl _⟩,⟨by (with_reducible repeat (first | refine blk_drewN ?_ _ | refine blk_drew ?_ | refine blk_alloc ?_ _));exact BK279.out⟩,⟨by repeat (first | (with_reducible first | exact HB.out | apply below_alloc | apply pw_below_drewN | apply below_drew1 | refine below_set ?_ GE279.out) | exact HB.out)⟩⟩
 case round =>
  clear H'
  try clear c1
  try clear p2
  obtain ⟨x9_1,rfl,HA,HK1,BK279,HB⟩:=hrel
  cases gk with
  | zero=>exact absurd HA.out (by simp [card_function_areVars.l0])
  | succ k1 =>
   have H:=HA.out
   clear HA
   simp only [card_function_areVars.l0] at H
   by_cases c4:x9_1 < (l1.length:Int)
   case neg =>
    rw [if_neg c4] at H
    have c4b0:decide (x9_1 < (l1.length:Int)) = false:=decide_eq_false c4
    clear c4
    obtain rfl:=Option.some.inj H
    go_wp2
    go_ret
    exact ⟨by first | rfl | (simp [errW_none,errW_some] <;> rfl) | (simp [*,errW_none,errW_some] <;> rfl),by repeat (first | (with_reducible first | exact HB.out | apply below_alloc | apply pw_below_drewN | apply below_drew1 | refine below_set ?_ GE279.out) | exact HB.out)⟩
   rw [if_pos c4] at H
   have c4b0:decide (x9_1 < (l1.length:Int)) = true:=decide_eq_true c4
   clear c4
   by_cases c5:0 ≤ x9_1
   case neg =>
    rw [if_neg c5] at H
    exact absurd H (by simp)
   rw [if_pos c5] at H
   have c5b0:decide (0 ≤ x9_1) = true:=decide_eq_true c5
   clear c5
   by_cases c6:x9_1 < (l1.length:Int)
   case neg =>
    rw [if_neg c6] at H
    exact absurd H (by simp)
   rw [if_pos c6] at H
   have c6b0:decide (x9_1 < (l1.length:Int)) = true:=decide_eq_true c6
   clear c6
   replace H:=Option.bind_eq_some_iff.mp H
   obtain ⟨t281,A70,H⟩:=H
   replace H:(if t281 = true then (if x9_1 ≤ (l1.length:Int) then ((slices_Contains_int_int.f k1 (l1.take (x9_1:Int).toNat) (rd l1 x9_1)).bind fun t283=>(if t283 = true then (some false) else (card_function_areVars.l0 k1 l1 l1 (l1.length:Int) (wrap64 (x9_1 + 1)) a0_0 a0_1))) else (none)) else (some false)) = some r:=H
   have A7:=Aside0.mk A70
   clear A70
   by_cases c8:t281 = true
   case neg =>
    replace c8:=Bool.eq_false_iff.mpr c8
    subst c8
    have H1:(some false) = some r:=by rw [if_neg (show ¬ (false = true) by decide)] at H;exact H
    clear H
    have H:=H1
    clear H1
    obtain rfl:=Option.some.inj H
    have p280:0 ≤ (x9_1:Int):=of_decide_eq_true (by first | (with_reducible assumption) | assumption)
    have q280:x9_1 < (l1.length:Int):=of_decide_eq_true (by first | (with_reducible assumption) | assumption)
    obtain ⟨ad280,e280,hx280_0⟩:=Kd.at_int HR1.out x9_1 p280 q280
    cases e280
    replace hx280_0:=(HB.out.cell (World.block_lt_of_cell? w _ hx280_0)).trans hx280_0
    replace p280:=eq_true p280
    replace q280:=eq_true q280
    have hcz17_0:wr.cell? ⟨gb279,0,none⟩ = some (.int .i64 a0_0):=(blk_cell BK279.out 0).trans rfl
    have hcz17_1:wr.cell? ⟨gb279,1,none⟩ = some (.string a0_1):=(blk_cell BK279.out 1).trans rfl
    have hfz17_0:=blk_frozen BK279.out 0
    have hfz17_1:=blk_frozen BK279.out 1
    go_wp2_with (first | ((with_reducible refine gate_callee (f:=61) rfl ?_);refine goesL_ (some 18) rfl rfl Try.func61 (by kernel_rfl) rfl #[.int .i64 (rd l1 x9_1),.int .i64 0,.int .i64 (wrap64 (a0_0 - 1))] rfl (by (try simp only [List.map_toArray,List.map_cons,List.map_nil]);first | done | rfl | (simp only [List.length_drop,List.length_take];rfl)) ?_;(with_reducible refine (card_within.calls (rd l1 x9_1) 0 (wrap64 (a0_0 - 1)) false _ A7.out).mono ?_);rintro e w' ⟨rfl,⟨nd,rfl⟩⟩;refine ⟨_,rfl,?_⟩))
    go_ret
    exact ⟨by first | rfl | (simp [errW_none,errW_some] <;> rfl) | (simp [*,errW_none,errW_some] <;> rfl),by repeat (first | (with_reducible first | exact HB.out | apply below_alloc | apply pw_below_drewN | apply below_drew1 | refine below_set ?_ GE279.out) | exact HB.out)⟩
   subst c8
   have H1:(if x9_1 ≤ (l1.length:Int) then ((slices_Contains_int_int.f k1 (l1.take (x9_1:Int).toNat) (rd l1 x9_1)).bind fun t283=>(if t283 = true then (some false) else (card_function_areVars.l0 k1 l1 l1 (l1.length:Int) (wrap64 (x9_1 + 1)) a0_0 a0_1))) else (none)) = some r:=by rw [if_pos rfl] at H;exact H
   clear H
   have H:=H1
   clear H1
   have c9b0:=eq_true (of_decide_eq_true (by first | (with_reducible assumption) | assumption):0 ≤ x9_1)
   by_cases c10:x9_1 ≤ (l1.length:Int)
   case neg =>
    rw [if_neg c10] at H
    exact absurd H (by simp)
   rw [if_pos c10] at H
   have c10b0:=eq_true c10
   have c10b1:decide (x9_1 ≤ (l1.length:Int)) = true:=decide_eq_true c10
   clear c10
   replace H:=Option.bind_eq_some_iff.mp H
   obtain ⟨t283,A110,H⟩:=H
   replace H:(if t283 = true then (some false) else (card_function_areVars.l0 k1 l1 l1 (l1.length:Int) (wrap64 (x9_1 + 1)) a0_0 a0_1)) = some r:=H
   have A11:=Aside0.mk A110
   clear A110
   by_cases c12:t283 = true
   ·subst c12
    have H1:(some false) = some r:=by rw [if_pos rfl] at H;exact H
    clear H
    have H:=H1
    clear H1
    obtain rfl:=Option.some.inj H
    have p280:0 ≤ (x9_1:Int):=of_decide_eq_true (by first | (with_reducible assumption) | assumption)
    have q280:x9_1 < (l1.length:Int):=of_decide_eq_true (by first | (with_reducible assumption) | assumption)
    obtain ⟨ad280,e280,hx280_0⟩:=Kd.at_int HR1.out x9_1 p280 q280
    cases e280
    replace hx280_0:=(HB.out.cell (World.block_lt_of_cell? w _ hx280_0)).trans hx280_0
    replace p280:=eq_true p280
    replace q280:=eq_true q280
    have hcz13_0:wr.cell? ⟨gb279,0,none⟩ = some (.int .i64 a0_0):=(blk_cell BK279.out 0).trans rfl
    have hcz13_1:wr.cell? ⟨gb279,1,none⟩ = some (.string a0_1):=(blk_cell BK279.out 1).trans rfl
    have hfz13_0:=blk_frozen BK279.out 0
    have hfz13_1:=blk_frozen BK279.out 1
    go_wp2_with (first | ((with_reducible refine gate_callee (f:=61) rfl ?_);refine goesL_ (some 18) rfl rfl Try.func61 (by kernel_rfl) rfl #[.int .i64 (rd l1 x9_1),.int .i64 0,.int .i64 (wrap64 (a0_0 - 1))] rfl (by (try simp only [List.map_toArray,List.map_cons,List.map_nil]);first | done | rfl | (simp only [List.length_drop,List.length_take];rfl)) ?_;(with_reducible refine (card_within.calls (rd l1 x9_1) 0 (wrap64 (a0_0 - 1)) true _ A7.out).mono ?_);rintro e w' ⟨rfl,⟨nd,rfl⟩⟩;refine ⟨_,rfl,?_⟩;obtain ⟨i014,hi014,_,hsz14,_⟩:=info_parts info3;obtain ⟨hcut14,hA14,hC14⟩:=print_take_of (P:=Try.prog) (Value.int .i64) 0 22 3 .i64 Try.underlying22 hi014 hsz14 (some ad280) c1 l1 x9_1 (of_decide_eq_true (by first | (with_reducible assumption) | assumption)) (of_decide_eq_true (by first | (with_reducible assumption) | assumption)) HC1.out;have HR282:=Aside0.mk (Kd.C_of_reads (h1:=fun _=>rfl) (hA14 _ (Kd.reads_of_C HR1.out)));have HC282:=Aside0.mk hC14;clear hA14 hC14 hi014 hsz14) | (go_at_call 72;(with_reducible refine (slices_Contains_int_int.callsT k1 _ _ l1 (x9_1:Int).toNat (rd l1 x9_1) true _ (by have h_:x9_1 < (l1.length:Int):=of_decide_eq_true (by first | (with_reducible assumption) | assumption);omega) ?side1 ?side2 A11.out).mono ?_);(case side1=>repeat (first | exact (Kd.C_below HR282.out (by repeat (first | (with_reducible first | exact HB.out | apply below_alloc | apply pw_below_drewN | apply below_drew1 | refine below_set ?_ GE279.out) | exact HB.out))) | (with_reducible refine Kd.C_alloc ?_ _) | (with_reducible refine Kd.C_drewN ?_ _) | (with_reducible refine Kd.C_drew ?_)));(case side2=>exact HC282.out);rintro e w' ⟨rfl,⟨nd,rfl⟩⟩))
    go_ret
    exact ⟨by first | rfl | (simp [errW_none,errW_some] <;> rfl) | (simp [*,errW_none,errW_some] <;> rfl),by repeat (first | (with_reducible first | exact HB.out | apply below_alloc | apply pw_below_drewN | apply below_drew1 | refine below_set ?_ GE279.out) | exact HB.out)⟩
   replace c12:=Bool.eq_false_iff.mpr c12
   subst c12
   have H1:(card_function_areVars.l0 k1 l1 l1 (l1.length:Int) (wrap64 (x9_1 + 1)) a0_0 a0_1) = some r:=by rw [if_neg (show ¬ (false = true) by decide)] at H;exact H
   clear H
   have H:=H1
   clear H1
   have H':=Aside0.mk H
   clear H
   have p280:0 ≤ (x9_1:Int):=of_decide_eq_true (by first | (with_reducible assumption) | assumption)
   have q280:x9_1 < (l1.length:Int):=of_decide_eq_true (by first | (with_reducible assumption) | assumption)
   obtain ⟨ad280,e280,hx280_0⟩:=Kd.at_int HR1.out x9_1 p280 q280
   cases e280
   replace hx280_0:=(HB.out.cell (World.block_lt_of_cell? w _ hx280_0)).trans hx280_0
   replace p280:=eq_true p280
   replace q280:=eq_true q280
   have hcz15_0:wr.cell? ⟨gb279,0,none⟩ = some (.int .i64 a0_0):=(blk_cell BK279.out 0).trans rfl
   have hcz15_1:wr.cell? ⟨gb279,1,none⟩ = some (.string a0_1):=(blk_cell BK279.out 1).trans rfl
   have hfz15_0:=blk_frozen BK279.out 0
   have hfz15_1:=blk_frozen BK279.out 1
   go_wp2_with (first | ((with_reducible refine gate_callee (f:=61) rfl ?_);refine goesL_ (some 18) rfl rfl Try.func61 (by kernel_rfl) rfl #[.int .i64 (rd l1 x9_1),.int .i64 0,.int .i64 (wrap64 (a0_0 - 1))] rfl (by (try simp only [List.map_toArray,List.map_cons,List.map_nil]);first | done | rfl | (simp only [List.length_drop,List.length_take];rfl)) ?_;(with_reducible refine (card_within.calls (rd l1 x9_1) 0 (wrap64 (a0_0 - 1)) true _ A7.out).mono ?_);rintro e w' ⟨rfl,⟨nd,rfl⟩⟩;refine ⟨_,rfl,?_⟩;obtain ⟨i016,hi016,_,hsz16,_⟩:=info_parts info3;obtain ⟨hcut16,hA16,hC16⟩:=print_take_of (P:=Try.prog) (Value.int .i64) 0 22 3 .i64 Try.underlying22 hi016 hsz16 (some ad280) c1 l1 x9_1 (of_decide_eq_true (by first | (with_reducible assumption) | assumption)) (of_decide_eq_true (by first | (with_reducible assumption) | assumption)) HC1.out;have HR282:=Aside0.mk (Kd.C_of_reads (h1:=fun _=>rfl) (hA16 _ (Kd.reads_of_C HR1.out)));have HC282:=Aside0.mk hC16;clear hA16 hC16 hi016 hsz16) | (go_at_call 72;(with_reducible refine (slices_Contains_int_int.callsT k1 _ _ l1 (x9_1:Int).toNat (rd l1 x9_1) false _ (by have h_:x9_1 < (l1.length:Int):=of_decide_eq_true (by first | (with_reducible assumption) | assumption);omega) ?side1 ?side2 A11.out).mono ?_);(case side1=>repeat (first | exact (Kd.C_below HR282.out (by repeat (first | (with_reducible first | exact HB.out | apply below_alloc | apply pw_below_drewN | apply below_drew1 | refine below_set ?_ GE279.out) | exact HB.out))) | (with_reducible refine Kd.C_alloc ?_ _) | (with_reducible refine Kd.C_drewN ?_ _) | (with_reducible refine Kd.C_drew ?_)));(case side2=>exact HC282.out);rintro e w' ⟨rfl,⟨nd,rfl⟩⟩))
   go_roundg k1
   case measure=>have:=HK1.out;omega
   case rel=>exact ⟨(wrap64 (x9_1 + 1)),(by first | rfl | (simp;done) | (simp [*];done)),H',⟨by have:=HK1.out;omega⟩,⟨by (with_reducible repeat (first | refine blk_drewN ?_ _ | refine blk_drew ?_ | refine blk_alloc ?_ _));exact BK279.out⟩,⟨by repeat (first | (with_reducible first | exact HB.out | apply below_alloc | apply pw_below_drewN | apply below_drew1 | refine below_set ?_ GE279.out) | exact HB.out)⟩⟩
mutual
def card_Turn.j0:Nat → ByteArray → List Int → List Int → Bool → Option (ByteArray × Int)
 | 0,_,_,_,_=>none
 | k + 1,x0,x1,x2,x41=>if x41 = true then (some ((⟨#[]⟩:ByteArray),2)) else (if 0 ≤ (x0.size:Int) then (if ((x0.size:Int):Int).toNat ≤ 281474976710656 then ((some (List.replicate ((x0.size:Int):Int).toNat 0:List Int)).bind fun y290=>(card_Turn.l0 k x0 x1 x2 y290 (y290.length:Int) 0)) else (none)) else (none))
def card_Turn.l0:Nat → ByteArray → List Int → List Int → List Int → Int → Int → Option (ByteArray × Int)
 | 0,_,_,_,_,_,_=>none
 | k + 1,x0,x1,x2,x10,x46,x47=>if x47 < x46 then (card_Turn.l1 k x0 x1 x2 x10 x47 0 x46 x47 x1 (x1.length:Int) 0) else (some (strOfNums x10,0))
def card_Turn.l1:Nat → ByteArray → List Int → List Int → List Int → Int → Int → Int → Int → List Int → Int → Int → Option (ByteArray × Int)
 | 0,_,_,_,_,_,_,_,_,_,_,_=>none
 | k + 1,x0,x1,x2,x10,x11,x12,x46,x47,x50,x51,x52=>if x52 < x51 then (if 0 ≤ x52 then (if x52 < (x50.length:Int) then ((slices_Contains_int_int.f k x2 x52).bind fun t294=>(if t294 = true then (if 0 ≤ (rd x50 x52) then (card_Turn.l1 k x0 x1 x2 x10 x11 (Go.bits .or .i64 x12 (shl .i64 (wrap64 (1 - (Go.bits .and .i64 (shr .i64 x11 x52) 1))) (rd x50 x52))) x46 x47 x50 x51 (wrap64 (x52 + 1))) else (none)) else (if 0 ≤ (rd x50 x52) then (card_Turn.l1 k x0 x1 x2 x10 x11 (Go.bits .or .i64 x12 (shl .i64 (Go.bits .and .i64 (shr .i64 x11 x52) 1) (rd x50 x52))) x46 x47 x50 x51 (wrap64 (x52 + 1))) else (none)))) else (none)) else (none)) else (if 0 ≤ x12 then (if x12 < (x0.size:Int) then (if 0 ≤ x11 then (if x11 < (x10.length:Int) then (card_Turn.l0 k x0 x1 x2 (x10.set (x11:Int).toNat (bt x0 x12)) x46 (wrap64 (x47 + 1))) else (none)) else (none)) else (none)) else (none))
end
def card_Turn.f (k:Nat) (a0:ByteArray) (l1:List Int) (l2:List Int):Option (ByteArray × Int):=(card_newFunction.f a0).bind fun bt284=>(if bt284.2.2 = true then ((card_function_areVars.f k bt284.1 bt284.2.1 l1).bind fun t288=>(if t288 = true then (if (l1.length:Int) = bt284.1 then ((card_function_areVars.f k bt284.1 bt284.2.1 l2).bind fun t289=>(card_Turn.j0 k a0 l1 l2 (!t289))) else (card_Turn.j0 k a0 l1 l2 true)) else (card_Turn.j0 k a0 l1 l2 true))) else (card_Turn.j0 k a0 l1 l2 true))
theorem card_Turn.mono_l:∀ k,(∀ y0 y1 y2 y3,LeO (card_Turn.j0 k y0 y1 y2 y3) (card_Turn.j0 (k + 1) y0 y1 y2 y3)) ∧ (∀ y0 y1 y2 y3 y4 y5,LeO (card_Turn.l0 k y0 y1 y2 y3 y4 y5) (card_Turn.l0 (k + 1) y0 y1 y2 y3 y4 y5)) ∧ (∀ y0 y1 y2 y3 y4 y5 y6 y7 y8 y9 y10,LeO (card_Turn.l1 k y0 y1 y2 y3 y4 y5 y6 y7 y8 y9 y10) (card_Turn.l1 (k + 1) y0 y1 y2 y3 y4 y5 y6 y7 y8 y9 y10))
 | 0=>⟨fun _ _ _ _ r h=>by simp [card_Turn.j0] at h,fun _ _ _ _ _ _ r h=>by simp [card_Turn.l0] at h,fun _ _ _ _ _ _ _ _ _ _ _ r h=>by simp [card_Turn.l1] at h⟩
 | k + 1=>by
  obtain ⟨ih0,ih1,ih2⟩:=card_Turn.mono_l k
  refine ⟨?_,?_,?_⟩
  ·intro y0 y1 y2 y3
   unfold card_Turn.j0
   repeat' first
   | (with_reducible exact ih0 _ _ _ _)
   | (with_reducible exact ih1 _ _ _ _ _ _)
   | (with_reducible exact ih2 _ _ _ _ _ _ _ _ _ _ _)
   | (with_reducible exact card_function_areVars.mono _ _ _ _)
   | (with_reducible exact slices_Contains_int_int.mono _ _ _)
   | (with_reducible exact LeO.refl _)
   | (with_reducible exact LeO.none _)
   | (with_reducible refine LeO.ite ?_ ?_)
   | (with_reducible refine LeO.bind ?_ (fun _=>?_))
   | exact ih0 _ _ _ _
   | exact ih1 _ _ _ _ _ _
   | exact ih2 _ _ _ _ _ _ _ _ _ _ _
   | exact card_function_areVars.mono _ _ _ _
   | exact slices_Contains_int_int.mono _ _ _
   | exact LeO.none _
   | refine LeO.ite ?_ ?_
   | refine LeO.bind ?_ (fun _=>?_)
  ·intro y0 y1 y2 y3 y4 y5
   unfold card_Turn.l0
   repeat' first
   | (with_reducible exact ih0 _ _ _ _)
   | (with_reducible exact ih1 _ _ _ _ _ _)
   | (with_reducible exact ih2 _ _ _ _ _ _ _ _ _ _ _)
   | (with_reducible exact card_function_areVars.mono _ _ _ _)
   | (with_reducible exact slices_Contains_int_int.mono _ _ _)
   | (with_reducible exact LeO.refl _)
   | (with_reducible exact LeO.none _)
   | (with_reducible refine LeO.ite ?_ ?_)
   | (with_reducible refine LeO.bind ?_ (fun _=>?_))
   | exact ih0 _ _ _ _
   | exact ih1 _ _ _ _ _ _
   | exact ih2 _ _ _ _ _ _ _ _ _ _ _
   | exact card_function_areVars.mono _ _ _ _
   | exact slices_Contains_int_int.mono _ _ _
   | exact LeO.none _
   | refine LeO.ite ?_ ?_
   | refine LeO.bind ?_ (fun _=>?_)
  intro y0 y1 y2 y3 y4 y5 y6 y7 y8 y9 y10
  unfold card_Turn.l1
  repeat' first
  | (with_reducible exact ih0 _ _ _ _)
  | (with_reducible exact ih1 _ _ _ _ _ _)
  | (with_reducible exact ih2 _ _ _ _ _ _ _ _ _ _ _)
  | (with_reducible exact card_function_areVars.mono _ _ _ _)
  | (with_reducible exact slices_Contains_int_int.mono _ _ _)
  | (with_reducible exact LeO.refl _)
  | (with_reducible exact LeO.none _)
  | (with_reducible refine LeO.ite ?_ ?_)
  | (with_reducible refine LeO.bind ?_ (fun _=>?_))
  | exact ih0 _ _ _ _
  | exact ih1 _ _ _ _ _ _
  | exact ih2 _ _ _ _ _ _ _ _ _ _ _
  | exact card_function_areVars.mono _ _ _ _
  | exact slices_Contains_int_int.mono _ _ _
  | exact LeO.none _
  | refine LeO.ite ?_ ?_
  | refine LeO.bind ?_ (fun _=>?_)
theorem card_Turn.mono:∀ a0 a1 a2 k,LeO (card_Turn.f k a0 a1 a2) (card_Turn.f (k + 1) a0 a1 a2):=by
 intro a0 a1 a2 k
 obtain ⟨ih0,ih1,ih2⟩:=card_Turn.mono_l k
 unfold card_Turn.f
 repeat' first
   | (with_reducible exact ih0 _ _ _ _)
   | (with_reducible exact ih1 _ _ _ _ _ _)
   | (with_reducible exact ih2 _ _ _ _ _ _ _ _ _ _ _)
   | (with_reducible exact card_function_areVars.mono _ _ _ _)
   | (with_reducible exact slices_Contains_int_int.mono _ _ _)
   | (with_reducible exact LeO.refl _)
   | (with_reducible exact LeO.none _)
   | (with_reducible refine LeO.ite ?_ ?_)
   | (with_reducible refine LeO.bind ?_ (fun _=>?_))
   | exact ih0 _ _ _ _
   | exact ih1 _ _ _ _ _ _
   | exact ih2 _ _ _ _ _ _ _ _ _ _ _
   | exact card_function_areVars.mono _ _ _ _
   | exact slices_Contains_int_int.mono _ _ _
   | exact LeO.none _
   | refine LeO.ite ?_ ?_
   | refine LeO.bind ?_ (fun _=>?_)
theorem card_Turn.calls (k:Nat) (a0:ByteArray) (A1:Option Addr) (c1:Nat) (l1:List Int) (A2:Option Addr) (c2:Nat) (l2:List Int) (r1:ByteArray) (r2:Int) (w:World) (hr1:Kd.C (Kd.int .i64) w A1 l1.length l1) (hc1:l1.length ≤ c1) (hr2:Kd.C (Kd.int .i64) w A2 l2.length l2) (hc2:l2.length ≤ c2) (h:card_Turn.f k a0 l1 l2 = some (r1,r2)) :
  Calls Try.prog 37 #[.string a0,.slice A1 l1.length c1,.slice A2 l2.length c2] w fun e w'=>e = .returned (.tuple #[.string r1,.int .i64 r2]) ∧ Below w.heap.size w w':=by
 have hu81:=Try.underlying81
 have HR1:=Aside0.mk hr1
 have HC1:=Aside0.mk hc1
 clear hr1 hc1
 have HR2:=Aside0.mk hr2
 have HC2:=Aside0.mk hc2
 clear hr2 hc2
 have HB:=Aside0.mk (Below.refl w.heap.size w)
 have H:((card_newFunction.f a0).bind fun bt284=>(if bt284.2.2 = true then ((card_function_areVars.f k bt284.1 bt284.2.1 l1).bind fun t288=>(if t288 = true then (if (l1.length:Int) = bt284.1 then ((card_function_areVars.f k bt284.1 bt284.2.1 l2).bind fun t289=>(card_Turn.j0 k a0 l1 l2 (!t289))) else (card_Turn.j0 k a0 l1 l2 true)) else (card_Turn.j0 k a0 l1 l2 true))) else (card_Turn.j0 k a0 l1 l2 true))) = some (r1,r2):=h
 clear h
 replace H:=Option.bind_eq_some_iff.mp H
 obtain ⟨⟨t284,t285,t286⟩,A40,H⟩:=H
 replace H:(if t286 = true then ((card_function_areVars.f k t284 t285 l1).bind fun t288=>(if t288 = true then (if (l1.length:Int) = t284 then ((card_function_areVars.f k t284 t285 l2).bind fun t289=>(card_Turn.j0 k a0 l1 l2 (!t289))) else (card_Turn.j0 k a0 l1 l2 true)) else (card_Turn.j0 k a0 l1 l2 true))) else (card_Turn.j0 k a0 l1 l2 true)) = some (r1,r2):=H
 have A4:=Aside0.mk A40
 clear A40
 have HC5:=Aside0.mk H
 clear H
 go_enter Try.func37,Try.ntmps37
 go_upto_region 2 with (first | ((with_reducible refine gate_callee (f:=65) rfl ?_);refine goesL_ (some 18) rfl rfl Try.func65 (by kernel_rfl) rfl #[.string a0] rfl (by (try simp only [List.map_toArray,List.map_cons,List.map_nil]);first | done | rfl | (simp only [List.length_drop,List.length_take];rfl)) ?_;(with_reducible refine (card_newFunction.calls a0 t284 t285 t286 _ A4.out).mono ?_);rintro e w6 ⟨rfl,hb⟩;refine ⟨_,rfl,?_⟩;have n0_:=Aside0.mk (below_step (by repeat (first | (with_reducible first | exact HB.out | apply below_alloc | apply pw_below_drewN | apply below_drew1) | exact HB.out)) hb);clear HB;have HB:=n0_;clear n0_;(try clear hb)) | ((with_reducible refine gate_dst (N:=8) rfl ?_);(try (refine gate_guard (by rfl) ?_;dsimp only));refine box_event ?hg (N:=8) ?hd (cs:=#[.int .i64 0,.string (⟨#[]⟩:ByteArray)]) (t:=81) ?hr ?_;(case hd=>rfl);(case hg=>rfl);(case hr=>first | (go_simp;done) | (go_simp;rfl));intro gb287 hg w7 hbox hb;have n0_:=Aside0.mk (below_step (by repeat (first | (with_reducible first | exact HB.out | apply below_alloc | apply pw_below_drewN | apply below_drew1) | exact HB.out)) hb);have n1_:=Aside0.mk (hbox);have n2_:=Aside0.mk ((by rw [hg];exact (below_size (by repeat (first | (with_reducible first | exact HB.out | apply below_alloc | apply pw_below_drewN | apply below_drew1) | exact HB.out))):w.heap.size ≤ gb287));have n3_:=Aside0.mk ((by rw [hg];exact (below_size (by repeat (first | (with_reducible first | exact HB.out | apply below_alloc | apply pw_below_drewN | apply below_drew1) | exact HB.out))):w.heap.size ≤ gb287));clear HB;have HB:=n0_;have BK287:=n1_;have GW287:=n2_;have GE287:=n3_;clear n0_ n1_ n2_ n3_;clear hb hbox hg;have hcz8_0:w7.cell? ⟨gb287,0,none⟩ = some (.int .i64 0):=(blk_cell BK287.out 0).trans rfl;have hcz8_1:w7.cell? ⟨gb287,1,none⟩ = some (.string (⟨#[]⟩:ByteArray)):=(blk_cell BK287.out 1).trans rfl;have hfz8_0:=blk_frozen BK287.out 0;have hfz8_1:=blk_frozen BK287.out 1))
 (try simp only [Act.put,List.setIfInBounds_toArray,List.set_cons_zero,List.set_cons_succ])
 go_cut [41] (fun v41 wc=>∃ (kq:Nat) (x41_4:Bool),v41 = .bool x41_4 ∧ Aside0 (card_Turn.j0 kq a0 l1 l2 x41_4 = some (r1,r2)) ∧ Aside0 (kq ≤ k) ∧ Aside0 (wc.heap[gb287]? = some (.cells #[.int .i64 t284,.string t285] 81 (0,0))) ∧ Aside0 (Below w.heap.size w wc))
 case first =>
  have H:=HC5.out
  clear HC5
  by_cases c9:t286 = true
  case neg =>
   replace c9:=Bool.eq_false_iff.mpr c9
   subst c9
   have H1:(card_Turn.j0 k a0 l1 l2 true) = some (r1,r2):=by rw [if_neg (show ¬ (false = true) by decide)] at H;exact H
   clear H
   have H:=H1
   clear H1
   have H':=Aside0.mk H
   clear H
   go_wp2
   go_meet
   case rel=>exact ⟨_,(true),(by first | rfl | (simp;done) | (simp [*];done)),H',⟨by first | omega | exact Nat.le_refl _⟩,⟨by (with_reducible repeat (first | refine blk_drewN ?_ _ | refine blk_drew ?_ | refine blk_alloc ?_ _));refine blk_put (cs:=#[.int .i64 t284,.string (⟨#[]⟩:ByteArray)]) ?_ 1 _ rfl;(with_reducible repeat (first | refine blk_drewN ?_ _ | refine blk_drew ?_ | refine blk_alloc ?_ _));refine blk_put (cs:=#[.int .i64 0,.string (⟨#[]⟩:ByteArray)]) ?_ 0 _ rfl;(with_reducible repeat (first | refine blk_drewN ?_ _ | refine blk_drew ?_ | refine blk_alloc ?_ _));exact BK287.out⟩,⟨by repeat (first | (with_reducible first | exact HB.out | apply below_alloc | apply pw_below_drewN | apply below_drew1 | refine below_set ?_ GE287.out) | exact HB.out)⟩⟩
  subst c9
  have H1:((card_function_areVars.f k t284 t285 l1).bind fun t288=>(if t288 = true then (if (l1.length:Int) = t284 then ((card_function_areVars.f k t284 t285 l2).bind fun t289=>(card_Turn.j0 k a0 l1 l2 (!t289))) else (card_Turn.j0 k a0 l1 l2 true)) else (card_Turn.j0 k a0 l1 l2 true))) = some (r1,r2):=by rw [if_pos rfl] at H;exact H
  clear H
  have H:=H1
  clear H1
  replace H:=Option.bind_eq_some_iff.mp H
  obtain ⟨t288,A100,H⟩:=H
  replace H:(if t288 = true then (if (l1.length:Int) = t284 then ((card_function_areVars.f k t284 t285 l2).bind fun t289=>(card_Turn.j0 k a0 l1 l2 (!t289))) else (card_Turn.j0 k a0 l1 l2 true)) else (card_Turn.j0 k a0 l1 l2 true)) = some (r1,r2):=H
  have A10:=Aside0.mk A100
  clear A100
  by_cases c11:t288 = true
  case neg =>
   replace c11:=Bool.eq_false_iff.mpr c11
   subst c11
   have H1:(card_Turn.j0 k a0 l1 l2 true) = some (r1,r2):=by rw [if_neg (show ¬ (false = true) by decide)] at H;exact H
   clear H
   have H:=H1
   clear H1
   have H':=Aside0.mk H
   clear H
   have hcz21_0:w7.cell? ⟨gb287,0,none⟩ = some (.int .i64 0):=(blk_cell BK287.out 0).trans rfl
   have hcz21_1:w7.cell? ⟨gb287,1,none⟩ = some (.string (⟨#[]⟩:ByteArray)):=(blk_cell BK287.out 1).trans rfl
   have hfz21_0:=blk_frozen BK287.out 0
   have hfz21_1:=blk_frozen BK287.out 1
   go_wp2_with (first | (go_at_call 71;(with_reducible refine (card_function_areVars.calls k t284 t285 _ _ l1 false _ ?side1 ?side2 A10.out).mono ?_);(case side1=>exact Kd.C_below HR1.out (by repeat (first | (with_reducible first | exact HB.out | apply below_alloc | apply pw_below_drewN | apply below_drew1 | refine below_set ?_ GE287.out) | exact HB.out)));(case side2=>exact HC1.out);rintro e w22 ⟨rfl,hb⟩;have n0_:=Aside0.mk (blk_below (g:=gb287) (o:=.cells #[.int .i64 t284,.string t285] 81 (0,0)) (by (with_reducible repeat (first | refine blk_drewN ?_ _ | refine blk_drew ?_ | refine blk_alloc ?_ _));refine blk_put (cs:=#[.int .i64 t284,.string (⟨#[]⟩:ByteArray)]) ?_ 1 _ rfl;(with_reducible repeat (first | refine blk_drewN ?_ _ | refine blk_drew ?_ | refine blk_alloc ?_ _));refine blk_put (cs:=#[.int .i64 0,.string (⟨#[]⟩:ByteArray)]) ?_ 0 _ rfl;(with_reducible repeat (first | refine blk_drewN ?_ _ | refine blk_drew ?_ | refine blk_alloc ?_ _));exact BK287.out) hb);have n1_:=Aside0.mk (below_step (by repeat (first | (with_reducible first | exact HB.out | apply below_alloc | apply pw_below_drewN | apply below_drew1 | refine below_set ?_ GE287.out) | exact HB.out)) hb);clear BK287;clear HB;have BK287:=n0_;have HB:=n1_;clear n0_ n1_;(try clear hb)))
   go_meet
   case rel=>exact ⟨_,(true),(by first | rfl | (simp;done) | (simp [*];done)),H',⟨by first | omega | exact Nat.le_refl _⟩,⟨by (with_reducible repeat (first | refine blk_drewN ?_ _ | refine blk_drew ?_ | refine blk_alloc ?_ _));exact BK287.out⟩,⟨by repeat (first | (with_reducible first | exact HB.out | apply below_alloc | apply pw_below_drewN | apply below_drew1 | refine below_set ?_ GE287.out) | exact HB.out)⟩⟩
  subst c11
  have H1:(if (l1.length:Int) = t284 then ((card_function_areVars.f k t284 t285 l2).bind fun t289=>(card_Turn.j0 k a0 l1 l2 (!t289))) else (card_Turn.j0 k a0 l1 l2 true)) = some (r1,r2):=by rw [if_pos rfl] at H;exact H
  clear H
  have H:=H1
  clear H1
  by_cases c12:(l1.length:Int) = t284
  case neg =>
   rw [if_neg c12] at H
   have c12b0:((l1.length:Int) == t284) = false:=beq_eq_false_iff_ne.mpr c12
   have c12b1:((l1.length:Int) != t284) = true:=bne_iff_ne.mpr c12
   (first | rw [c12b0] | (simp only [i64_w,i32_w];rw [c12b0]) | skip)
   have H':=Aside0.mk H
   clear H
   have hcz18_0:w7.cell? ⟨gb287,0,none⟩ = some (.int .i64 0):=(blk_cell BK287.out 0).trans rfl
   have hcz18_1:w7.cell? ⟨gb287,1,none⟩ = some (.string (⟨#[]⟩:ByteArray)):=(blk_cell BK287.out 1).trans rfl
   have hfz18_0:=blk_frozen BK287.out 0
   have hfz18_1:=blk_frozen BK287.out 1
   go_wp2_with (first | (go_at_call 71;(with_reducible refine (card_function_areVars.calls k t284 t285 _ _ l1 true _ ?side1 ?side2 A10.out).mono ?_);(case side1=>exact Kd.C_below HR1.out (by repeat (first | (with_reducible first | exact HB.out | apply below_alloc | apply pw_below_drewN | apply below_drew1 | refine below_set ?_ GE287.out) | exact HB.out)));(case side2=>exact HC1.out);rintro e w19 ⟨rfl,hb⟩;have n0_:=Aside0.mk (blk_below (g:=gb287) (o:=.cells #[.int .i64 t284,.string t285] 81 (0,0)) (by (with_reducible repeat (first | refine blk_drewN ?_ _ | refine blk_drew ?_ | refine blk_alloc ?_ _));refine blk_put (cs:=#[.int .i64 t284,.string (⟨#[]⟩:ByteArray)]) ?_ 1 _ rfl;(with_reducible repeat (first | refine blk_drewN ?_ _ | refine blk_drew ?_ | refine blk_alloc ?_ _));refine blk_put (cs:=#[.int .i64 0,.string (⟨#[]⟩:ByteArray)]) ?_ 0 _ rfl;(with_reducible repeat (first | refine blk_drewN ?_ _ | refine blk_drew ?_ | refine blk_alloc ?_ _));exact BK287.out) hb);have n1_:=Aside0.mk (below_step (by repeat (first | (with_reducible first | exact HB.out | apply below_alloc | apply pw_below_drewN | apply below_drew1 | refine below_set ?_ GE287.out) | exact HB.out)) hb);clear BK287;clear HB;have BK287:=n0_;have HB:=n1_;clear n0_ n1_;(try clear hb);have hcz20_0:w19.cell? ⟨gb287,0,none⟩ = some (.int .i64 t284):=(blk_cell BK287.out 0).trans rfl;have hcz20_1:w19.cell? ⟨gb287,1,none⟩ = some (.string t285):=(blk_cell BK287.out 1).trans rfl;have hfz20_0:=blk_frozen BK287.out 0;have hfz20_1:=blk_frozen BK287.out 1))
   go_meet
   case rel=>exact ⟨_,(true),(by first | rfl | (simp;done) | (simp [*];done)),H',⟨by first | omega | exact Nat.le_refl _⟩,⟨by (with_reducible repeat (first | refine blk_drewN ?_ _ | refine blk_drew ?_ | refine blk_alloc ?_ _));exact BK287.out⟩,⟨by repeat (first | (with_reducible first | exact HB.out | apply below_alloc | apply pw_below_drewN | apply below_drew1 | refine below_set ?_ GE287.out) | exact HB.out)⟩⟩
  rw [if_pos c12] at H
  have c12b0:((l1.length:Int) == t284) = true:=beq_iff_eq.mpr c12
  have c12b1:((l1.length:Int) != t284) = false:=bne_eq_false_iff_eq.mpr c12
  clear c12
  (first | rw [c12b0] | (simp only [i64_w,i32_w];rw [c12b0]) | skip)
  replace H:=Option.bind_eq_some_iff.mp H
  obtain ⟨t289,A130,H⟩:=H
  replace H:(card_Turn.j0 k a0 l1 l2 (!t289)) = some (r1,r2):=H
  have A13:=Aside0.mk A130
  clear A130
  have H':=Aside0.mk H
  clear H
  have hcz14_0:w7.cell? ⟨gb287,0,none⟩ = some (.int .i64 0):=(blk_cell BK287.out 0).trans rfl
  have hcz14_1:w7.cell? ⟨gb287,1,none⟩ = some (.string (⟨#[]⟩:ByteArray)):=(blk_cell BK287.out 1).trans rfl
  have hfz14_0:=blk_frozen BK287.out 0
  have hfz14_1:=blk_frozen BK287.out 1
  go_wp2_with (first | (go_at_call 71;(with_reducible refine (card_function_areVars.calls k t284 t285 _ _ l1 true _ ?side1 ?side2 A10.out).mono ?_);(case side1=>exact Kd.C_below HR1.out (by repeat (first | (with_reducible first | exact HB.out | apply below_alloc | apply pw_below_drewN | apply below_drew1 | refine below_set ?_ GE287.out) | exact HB.out)));(case side2=>exact HC1.out);rintro e w15 ⟨rfl,hb⟩;have n0_:=Aside0.mk (blk_below (g:=gb287) (o:=.cells #[.int .i64 t284,.string t285] 81 (0,0)) (by (with_reducible repeat (first | refine blk_drewN ?_ _ | refine blk_drew ?_ | refine blk_alloc ?_ _));refine blk_put (cs:=#[.int .i64 t284,.string (⟨#[]⟩:ByteArray)]) ?_ 1 _ rfl;(with_reducible repeat (first | refine blk_drewN ?_ _ | refine blk_drew ?_ | refine blk_alloc ?_ _));refine blk_put (cs:=#[.int .i64 0,.string (⟨#[]⟩:ByteArray)]) ?_ 0 _ rfl;(with_reducible repeat (first | refine blk_drewN ?_ _ | refine blk_drew ?_ | refine blk_alloc ?_ _));exact BK287.out) hb);have n1_:=Aside0.mk (below_step (by repeat (first | (with_reducible first | exact HB.out | apply below_alloc | apply pw_below_drewN | apply below_drew1 | refine below_set ?_ GE287.out) | exact HB.out)) hb);clear BK287;clear HB;have BK287:=n0_;have HB:=n1_;clear n0_ n1_;(try clear hb);have hcz16_0:w15.cell? ⟨gb287,0,none⟩ = some (.int .i64 t284):=(blk_cell BK287.out 0).trans rfl;have hcz16_1:w15.cell? ⟨gb287,1,none⟩ = some (.string t285):=(blk_cell BK287.out 1).trans rfl;have hfz16_0:=blk_frozen BK287.out 0;have hfz16_1:=blk_frozen BK287.out 1) | (go_at_call 71;(with_reducible refine (card_function_areVars.calls k t284 t285 _ _ l2 t289 _ ?side1 ?side2 A13.out).mono ?_);(case side1=>repeat (first | exact (Kd.C_below HR2.out HB.out) | (with_reducible refine Kd.C_alloc ?_ _) | (with_reducible refine Kd.C_drewN ?_ _) | (with_reducible refine Kd.C_drew ?_)));(case side2=>exact HC2.out);rintro e w17 ⟨rfl,hb⟩;have n0_:=Aside0.mk (blk_below (g:=gb287) (o:=.cells #[.int .i64 t284,.string t285] 81 (0,0)) (by (with_reducible repeat (first | refine blk_drewN ?_ _ | refine blk_drew ?_ | refine blk_alloc ?_ _));exact BK287.out) hb);have n1_:=Aside0.mk (below_step (by repeat (first | (with_reducible first | exact HB.out | apply below_alloc | apply pw_below_drewN | apply below_drew1 | refine below_set ?_ GE287.out) | exact HB.out)) hb);clear BK287;clear HB;have BK287:=n0_;have HB:=n1_;clear n0_ n1_;(try clear hb)))
  go_meet
  case rel=>exact ⟨_,(!t289),(by first | rfl | (simp;done) | (simp [*];done)),H',⟨by first | omega | exact Nat.le_refl _⟩,⟨by (with_reducible repeat (first | refine blk_drewN ?_ _ | refine blk_drew ?_ | refine blk_alloc ?_ _));exact BK287.out⟩,⟨by repeat (first | (with_reducible first | exact HB.out | apply below_alloc | apply pw_below_drewN | apply below_drew1 | refine below_set ?_ GE287.out) | exact HB.out)⟩⟩
 case rest =>
  clear HC5
  try clear c1
  try clear c2
  try clear p2
  try clear c3
  try clear c6
  try clear c9
  try clear c11
  try clear c12
  try clear c12b0
  try clear c12b1
  try clear hcz14_0
  try clear hcz14_1
  try clear hcz16_0
  try clear hcz16_1
  try clear hcz18_0
  try clear hcz18_1
  try clear hcz20_0
  try clear hcz20_1
  try clear hcz21_0
  try clear hcz21_1
  try clear hcz8_0
  try clear hcz8_1
  try clear hfz14_0
  try clear hfz14_1
  try clear hfz16_0
  try clear hfz16_1
  try clear hfz18_0
  try clear hfz18_1
  try clear hfz20_0
  try clear hfz20_1
  try clear hfz21_0
  try clear hfz21_1
  try clear hfz8_0
  try clear hfz8_1
  obtain ⟨kq,x41_4,rfl,HA,HJ4,BK287,HB⟩:=hcut
  cases kq with
  | zero=>exact absurd HA.out (by simp [card_Turn.j0])
  | succ kj4 =>
   have H:=HA.out
   clear HA
   simp only [card_Turn.j0] at H
   by_cases c23:x41_4 = true
   ·subst c23
    have H1:(some ((⟨#[]⟩:ByteArray),2)) = some (r1,r2):=by rw [if_pos rfl] at H;exact H
    clear H
    have H:=H1
    clear H1
    simp only [Option.some.injEq,Prod.mk.injEq] at H
    obtain ⟨rfl,rfl⟩:=H
    go_wp2
    go_ret2
    exact ⟨by first | rfl | (simp [errW_none,errW_some] <;> rfl) | (simp [*,errW_none,errW_some] <;> rfl),by repeat (first | (with_reducible first | exact HB.out | apply below_alloc | apply pw_below_drewN | apply below_drew1 | refine below_set ?_ GE287.out) | exact HB.out)⟩
   replace c23:=Bool.eq_false_iff.mpr c23
   subst c23
   have H1:(if 0 ≤ (a0.size:Int) then (if ((a0.size:Int):Int).toNat ≤ 281474976710656 then ((some (List.replicate ((a0.size:Int):Int).toNat 0:List Int)).bind fun y290=>(card_Turn.l0 kj4 a0 l1 l2 y290 (y290.length:Int) 0)) else (none)) else (none)) = some (r1,r2):=by rw [if_neg (show ¬ (false = true) by decide)] at H;exact H
   clear H
   have H:=H1
   clear H1
   by_cases c24:0 ≤ (a0.size:Int)
   case neg =>
    rw [if_neg c24] at H
    exact absurd H (by simp)
   rw [if_pos c24] at H
   have c24b0:=eq_true c24
   have c24b1:decide (0 ≤ (a0.size:Int)) = true:=decide_eq_true c24
   clear c24
   by_cases c25:((a0.size:Int):Int).toNat ≤ 281474976710656
   case neg =>
    rw [if_neg c25] at H
    exact absurd H (by simp)
   rw [if_pos c25] at H
   have c25b0:=eq_true c25
   have c25b1:decide (((a0.size:Int):Int).toNat ≤ 281474976710656) = true:=decide_eq_true c25
   clear c25
   obtain ⟨y290,hy290⟩:∃ y_:List Int,y_ = (List.replicate ((a0.size:Int):Int).toNat 0):=⟨_,rfl⟩
   replace H:(card_Turn.l0 kj4 a0 l1 l2 y290 (y290.length:Int) 0) = some (r1,r2):=by first | (rw [hy290];with_reducible exact H) | (have H2_:=(Option.bind_some _ _).symm.trans H;rw [hy290];with_reducible exact H2_) | (have H2_:=(Option.bind_some _ _).symm.trans H;with_reducible exact H2_) | with_reducible exact H | (rw [hy290];exact H) | exact H
   have Ny290:=Aside0.mk hy290
   clear hy290
   have H':=Aside0.mk H
   clear H
   go_wp2_with (first | ((with_reducible refine gate_dst (N:=44) rfl ?_);(try (refine gate_guard (by rfl) ?_;dsimp only));refine Kd.R_make (Kd.int .u8) _ 5 rfl (N:=44) rfl 42 _ _ rfl (a0.size:Int) rfl rfl Try.underlying42 (.int .u8 0) 1 info5 rfl (by decide) (by omega) 0 (ok:=fun _=>True) (okp:=fun _=>True) rfl (fun _ hk=>hk) trivial (of_decide_eq_true (by first | (with_reducible assumption) | assumption)) (Nat.le_trans (Nat.mul_le_mul_right _ (of_decide_eq_true (by first | (with_reducible assumption) | assumption):(a0.size:Int).toNat ≤ 281474976710656)) (by omega)) (Below.refl _ _) (Nat.le_refl _) ?_;intro v291 w26 ho27 hb hg_ hnew_;clear hg_ hnew_;(first | rw [← Ny290.out] at ho27 | (simp only [Int.reduceToNat] at ho27;rw [← Ny290.out] at ho27));have n0_:=Aside0.mk (Kd.R_lower ho27 (below_size (by repeat (first | (with_reducible first | exact HB.out | apply below_alloc | apply pw_below_drewN | apply below_drew1 | refine below_set ?_ GE287.out) | exact HB.out))));have n1_:=Aside0.mk (blk_below (g:=gb287) (o:=.cells #[.int .i64 t284,.string t285] 81 (0,0)) (by (with_reducible repeat (first | refine blk_drewN ?_ _ | refine blk_drew ?_ | refine blk_alloc ?_ _));exact BK287.out) hb);have n2_:=Aside0.mk (below_step (by repeat (first | (with_reducible first | exact HB.out | apply below_alloc | apply pw_below_drewN | apply below_drew1 | refine below_set ?_ GE287.out) | exact HB.out)) hb);clear BK287;clear HB;have HO292:=n0_;have BK287:=n1_;have HB:=n2_;clear n0_ n1_ n2_;clear hb ho27;obtain ⟨Ao28,co28,eo28⟩:=Kd.R_slice HO292.out;subst eo28))
   go_loopg [47] kj4 (fun kq v47 w'=>∃ (x10_2:List Int) (x47_2:Int),v47 = .int .i64 x47_2 ∧ Aside0 (card_Turn.l0 kq a0 l1 l2 x10_2 (y290.length:Int) x47_2 = some (r1,r2)) ∧ Aside0 (kq ≤ kj4) ∧ Aside0 (Kd.R (Kd.int .u8) 5 w' w.heap.size (fun _=>True) (.slice Ao28 y290.length co28) x10_2) ∧ Aside0 (w'.heap[gb287]? = some (.cells #[.int .i64 t284,.string t285] 81 (0,0))) ∧ Aside0 (Below w.heap.size w w'))
   case atStart=>exact ⟨(y290),(0),(by first | rfl | (simp;done) | (simp [*];done)),H',⟨Nat.le_refl _⟩,⟨by (with_reducible repeat (first | apply Kd.R_alloc | apply Kd.R_drewN | apply Kd.R_drew));exact HO292.out⟩,⟨by (with_reducible repeat (first | refine blk_drewN ?_ _ | refine blk_drew ?_ | refine blk_alloc ?_ _));exact BK287.out⟩,⟨by repeat (first | (with_reducible first | exact HB.out | apply below_alloc | apply pw_below_drewN | apply below_drew1 | refine below_set ?_ GE287.out) | exact HB.out)⟩⟩
   case round =>
    clear H'
    try clear c1
    try clear c2
    try clear p2
    try clear c3
    try clear c6
    try clear c9
    try clear c11
    try clear c12
    try clear c12b0
    try clear c12b1
    try clear c23
    try clear c24
    try clear c24b0
    try clear c24b1
    try clear c25
    try clear c25b0
    try clear c25b1
    try clear hcz14_0
    try clear hcz14_1
    try clear hcz16_0
    try clear hcz16_1
    try clear hcz18_0
    try clear hcz18_1
    try clear hcz20_0
    try clear hcz20_1
    try clear hcz21_0
    try clear hcz21_1
    try clear hcz8_0
    try clear hcz8_1
    try clear hfz14_0
    try clear hfz14_1
    try clear hfz16_0
    try clear hfz16_1
    try clear hfz18_0
    try clear hfz18_1
    try clear hfz20_0
    try clear hfz20_1
    try clear hfz21_0
    try clear hfz21_1
    try clear hfz8_0
    try clear hfz8_1
    try clear p2
    obtain ⟨x10_2,x47_2,rfl,HA,HK2,HO_10,BK287,HB⟩:=hrel
    have hl10_2:=(Kd.R_reads' HO_10.out).1
    rw [hl10_2] at HO_10
    (try simp only [hl10_2])
    (try simp only [hl10_2] at BK287)
    cases gk with
    | zero=>exact absurd HA.out (by simp [card_Turn.l0])
    | succ k2 =>
     have H:=HA.out
     clear HA
     simp only [card_Turn.l0] at H
     by_cases c29:x47_2 < (y290.length:Int)
     case neg =>
      rw [if_neg c29] at H
      have c29b0:decide (x47_2 < (y290.length:Int)) = false:=decide_eq_false c29
      (try rw [hl10_2] at c29b0)
      clear c29
      simp only [Option.some.injEq,Prod.mk.injEq] at H
      obtain ⟨rfl,rfl⟩:=H
      have hcv49:=own_string (P:=Try.prog) Try.underlying42 Try.underlying5 Try.underlying9 (Kd.own_of_R HO_10.out)
      go_wp2
      go_ret2
      exact ⟨by first | rfl | (simp [errW_none,errW_some] <;> rfl) | (simp [*,errW_none,errW_some] <;> rfl),by repeat (first | (with_reducible first | exact HB.out | apply below_alloc | apply pw_below_drewN | apply below_drew1 | refine below_set ?_ GE287.out) | exact HB.out)⟩
     rw [if_pos c29] at H
     have c29b0:decide (x47_2 < (y290.length:Int)) = true:=decide_eq_true c29
     (try rw [hl10_2] at c29b0)
     clear c29
     have H':=Aside0.mk H
     clear H
     go_wp2
     go_loopg [12,52] k2 (fun kq v12 v52 w'=>∃ (x12_3:Int) (x52_3:Int),v12 = .int .i64 x12_3 ∧ v52 = .int .i64 x52_3 ∧ Aside0 (card_Turn.l1 kq a0 l1 l2 x10_2 x47_2 x12_3 (y290.length:Int) x47_2 l1 (l1.length:Int) x52_3 = some (r1,r2)) ∧ Aside0 (kq ≤ k2) ∧ Aside0 (Kd.R (Kd.int .u8) 5 w' w.heap.size (fun _=>True) (.slice Ao28 x10_2.length co28) x10_2) ∧ Aside0 (w'.heap[gb287]? = some (.cells #[.int .i64 t284,.string t285] 81 (0,0))) ∧ Aside0 (Below w.heap.size w w'))
     case atStart=>exact ⟨(0),(0),(by first | rfl | (simp;done) | (simp [*];done)),(by first | rfl | (simp;done) | (simp [*];done)),H',⟨Nat.le_refl _⟩,⟨by (try simp only [hl10_2]);(with_reducible repeat (first | apply Kd.R_alloc | apply Kd.R_drewN | apply Kd.R_drew));exact HO_10.out⟩,⟨by (try simp only [hl10_2]);(with_reducible repeat (first | refine blk_drewN ?_ _ | refine blk_drew ?_ | refine blk_alloc ?_ _));exact BK287.out⟩,⟨by repeat (first | (with_reducible first | exact HB.out | apply below_alloc | apply pw_below_drewN | apply below_drew1 | refine below_set ?_ GE287.out) | exact HB.out)⟩⟩
     case round =>
      clear H'
      try clear c1
      try clear c2
      try clear p2
      try clear c3
      try clear c6
      try clear c9
      try clear c11
      try clear c12
      try clear c12b0
      try clear c12b1
      try clear c23
      try clear c24
      try clear c24b0
      try clear c24b1
      try clear c25
      try clear c25b0
      try clear c25b1
      try clear c29
      try clear c29b0
      try clear hcz14_0
      try clear hcz14_1
      try clear hcz16_0
      try clear hcz16_1
      try clear hcz18_0
      try clear hcz18_1
      try clear hcz20_0
      try clear hcz20_1
      try clear hcz21_0
      try clear hcz21_1
      try clear hcz8_0
      try clear hcz8_1
      try clear hfz14_0
      try clear hfz14_1
      try clear hfz16_0
      try clear hfz16_1
      try clear hfz18_0
      try clear hfz18_1
      try clear hfz20_0
      try clear hfz20_1
      try clear hfz21_0
      try clear hfz21_1
      try clear hfz8_0
      try clear hfz8_1
      try clear p2
      obtain ⟨x12_3,x52_3,rfl,rfl,HA,HK3,HO_10,BK287,HB⟩:=hrel
      cases gk with
      | zero=>exact absurd HA.out (by simp [card_Turn.l1])
      | succ k3 =>
       have H:=HA.out
       clear HA
       simp only [card_Turn.l1] at H
       by_cases c30:x52_3 < (l1.length:Int)
       case neg =>
        rw [if_neg c30] at H
        have c30b0:decide (x52_3 < (l1.length:Int)) = false:=decide_eq_false c30
        clear c30
        by_cases c41:0 ≤ x12_3
        case neg =>
         rw [if_neg c41] at H
         exact absurd H (by simp)
        rw [if_pos c41] at H
        have c41b0:decide (0 ≤ x12_3) = true:=decide_eq_true c41
        clear c41
        by_cases c42:x12_3 < (a0.size:Int)
        case neg =>
         rw [if_neg c42] at H
         exact absurd H (by simp)
        rw [if_pos c42] at H
        have c42b0:decide (x12_3 < (a0.size:Int)) = true:=decide_eq_true c42
        clear c42
        by_cases c44:0 ≤ x47_2
        case neg =>
         rw [if_neg c44] at H
         exact absurd H (by simp)
        rw [if_pos c44] at H
        have c44b0:decide (0 ≤ x47_2) = true:=decide_eq_true c44
        clear c44
        by_cases c45:x47_2 < (x10_2.length:Int)
        case neg =>
         rw [if_neg c45] at H
         exact absurd H (by simp)
        rw [if_pos c45] at H
        have c45b0:decide (x47_2 < (x10_2.length:Int)) = true:=decide_eq_true c45
        clear c45
        obtain ⟨y295,hy295⟩:∃ y_:List Int,y_ = (x10_2.set (x47_2:Int).toNat (bt a0 x12_3)):=⟨_,rfl⟩
        replace H:(card_Turn.l0 k3 a0 l1 l2 y295 (y290.length:Int) (wrap64 (x47_2 + 1))) = some (r1,r2):=by first | (rw [hy295];with_reducible exact H) | (have H2_:=(Option.bind_some _ _).symm.trans H;rw [hy295];with_reducible exact H2_) | (have H2_:=(Option.bind_some _ _).symm.trans H;with_reducible exact H2_) | with_reducible exact H | (rw [hy295];exact H) | exact H
        have Ny295:=Aside0.mk hy295
        clear hy295
        have H':=Aside0.mk H
        clear H
        have p43:0 ≤ (x12_3:Int):=of_decide_eq_true (by first | (with_reducible assumption) | assumption)
        have q43:x12_3 < (a0.size:Int):=of_decide_eq_true (by first | (with_reducible assumption) | assumption)
        have hx43:=bt_at a0 x12_3
        replace p43:=eq_true p43
        replace q43:=eq_true q43
        have p46:0 ≤ (x47_2:Int):=of_decide_eq_true (by first | (with_reducible assumption) | assumption)
        have q46:(x47_2:Int) < ((x10_2.length:Int):Int):=of_decide_eq_true (by first | (with_reducible assumption) | assumption)
        obtain ⟨go46,co46,eo46,gb46,gl46,cl46,HG46⟩:=Kd.R_form HO_10.out (by omega)
        (first | cases eo46 | (injection eo46 with ea_ en_ ec_;(first | subst ea_ | (injection ea_ with ea_;subst ea_));subst ec_;clear en_))
        have GB46:=Aside0.mk gb46
        have GG46:=Aside0.mk HG46
        clear gb46 gl46 HG46
        obtain ⟨hx46_0,hf46_0⟩:=Kd.R_celln 0 HO_10.out (x47_2:Int) p46 q46
        replace p46:=eq_true p46
        replace q46:=eq_true q46
        have HP47:=Kd.R_putg HO_10.out (x47_2:Int) (bt a0 x12_3)
        go_wp2_with (first | ((with_reducible refine gate_store (t:=5) (p:=77) rfl ?_);refine store_event (t:=5) (p:=77) (v:=?vo_w48) (w1:=(wr.setCell ⟨go46,(x47_2:Int).toNat,none⟩ (.int .u8 (bt a0 x12_3)))) ?hg ?ho ?hn ?hr ?_;(case ho=>rfl);(case hg=>rfl);(case hn=>rfl);(case hr=>first | (go_simp;done) | (go_simp;rfl));intro w48 hw;have hg:wr.grownBy w48 (some go46):=(by rw [hw];exact HP47.2);have hp_:Kd.R (Kd.int .u8) 5 w48 w.heap.size (fun _=>True) (.slice (some ⟨go46,0,none⟩) x10_2.length co28) y295:=(by rw [hw,Ny295.out];exact HP47.1);clear HP47;have n0_:=Aside0.mk (hp_);have n1_:=Aside0.mk (blk_grown (g:=gb287) (o:=.cells #[.int .i64 t284,.string t285] 81 (0,0)) (by (with_reducible repeat (first | refine blk_drewN ?_ _ | refine blk_drew ?_ | refine blk_alloc ?_ _));exact BK287.out) hg (Kd.R_ne HO_10.out BK287.out (by decide)));have n2_:=Aside0.mk ((by rw [hw];exact below_set (HB.out) GB46.out:Below w.heap.size w w48));clear HO_10;clear BK287;clear HB;have HO_10:=n0_;have BK287:=n1_;have HB:=n2_;clear n0_ n1_ n2_;clear hg hw hp_))
        (try simp only [← hl10_2])
        go_roundg k3
        case measure=>have:=HJ4.out;have:=HK2.out;have:=HK3.out;omega
        case rel=>exact ⟨(y295),(wrap64 (x47_2 + 1)),(by first | rfl | (simp;done) | (simp [*];done)),H',⟨by have:=HJ4.out;have:=HK2.out;have:=HK3.out;omega⟩,⟨by (try simp only [hl10_2]);(with_reducible repeat (first | apply Kd.R_alloc | apply Kd.R_drewN | apply Kd.R_drew));exact HO_10.out⟩,⟨by (try simp only [hl10_2]);(with_reducible repeat (first | refine blk_drewN ?_ _ | refine blk_drew ?_ | refine blk_alloc ?_ _));exact BK287.out⟩,⟨by repeat (first | (with_reducible first | exact HB.out | apply below_alloc | apply pw_below_drewN | apply below_drew1 | refine below_set ?_ GE287.out) | exact HB.out)⟩⟩
       rw [if_pos c30] at H
       have c30b0:decide (x52_3 < (l1.length:Int)) = true:=decide_eq_true c30
       clear c30
       by_cases c31:0 ≤ x52_3
       case neg =>
        rw [if_neg c31] at H
        exact absurd H (by simp)
       rw [if_pos c31] at H
       have c31b0:decide (0 ≤ x52_3) = true:=decide_eq_true c31
       clear c31
       by_cases c32:x52_3 < (l1.length:Int)
       case neg =>
        rw [if_neg c32] at H
        exact absurd H (by simp)
       rw [if_pos c32] at H
       have c32b0:decide (x52_3 < (l1.length:Int)) = true:=decide_eq_true c32
       clear c32
       have c33b0:=eq_true (of_decide_eq_true (by first | (with_reducible assumption) | assumption):0 ≤ x52_3)
       obtain ⟨ji34,hji34⟩:∃ j_:Int,(shr .i64 x47_2 x52_3) = j_:=⟨_,rfl⟩
       replace H:((slices_Contains_int_int.f k3 l2 x52_3).bind fun t294=>(if t294 = true then (if 0 ≤ (rd l1 x52_3) then (card_Turn.l1 k3 a0 l1 l2 x10_2 x47_2 (Go.bits .or .i64 x12_3 (shl .i64 (wrap64 (1 - (Go.bits .and .i64 (ji34) 1))) (rd l1 x52_3))) (y290.length:Int) x47_2 l1 (l1.length:Int) (wrap64 (x52_3 + 1))) else (none)) else (if 0 ≤ (rd l1 x52_3) then (card_Turn.l1 k3 a0 l1 l2 x10_2 x47_2 (Go.bits .or .i64 x12_3 (shl .i64 (Go.bits .and .i64 (ji34) 1) (rd l1 x52_3))) (y290.length:Int) x47_2 l1 (l1.length:Int) (wrap64 (x52_3 + 1))) else (none)))) = some (r1,r2):=by first | (rw [hji34] at H;exact H) | (simp only [hji34] at H ⊢;exact H)
       have hji34_:(x47_2 / 2 ^ min x52_3.toNat 64) = ji34:=hji34
       have hji34z:x52_3 ≤ 64 → (x47_2 / 2 ^ x52_3.toNat) = ji34:=shr_small hji34
       replace H:=Option.bind_eq_some_iff.mp H
       obtain ⟨t294,A350,H⟩:=H
       replace H:(if t294 = true then (if 0 ≤ (rd l1 x52_3) then (card_Turn.l1 k3 a0 l1 l2 x10_2 x47_2 (Go.bits .or .i64 x12_3 (shl .i64 (wrap64 (1 - (Go.bits .and .i64 (ji34) 1))) (rd l1 x52_3))) (y290.length:Int) x47_2 l1 (l1.length:Int) (wrap64 (x52_3 + 1))) else (none)) else (if 0 ≤ (rd l1 x52_3) then (card_Turn.l1 k3 a0 l1 l2 x10_2 x47_2 (Go.bits .or .i64 x12_3 (shl .i64 (Go.bits .and .i64 (ji34) 1) (rd l1 x52_3))) (y290.length:Int) x47_2 l1 (l1.length:Int) (wrap64 (x52_3 + 1))) else (none))) = some (r1,r2):=H
       have A35:=Aside0.mk A350
       clear A350
       by_cases c36:t294 = true
       case neg =>
        replace c36:=Bool.eq_false_iff.mpr c36
        subst c36
        have H1:(if 0 ≤ (rd l1 x52_3) then (card_Turn.l1 k3 a0 l1 l2 x10_2 x47_2 (Go.bits .or .i64 x12_3 (shl .i64 (Go.bits .and .i64 (ji34) 1) (rd l1 x52_3))) (y290.length:Int) x47_2 l1 (l1.length:Int) (wrap64 (x52_3 + 1))) else (none)) = some (r1,r2):=by rw [if_neg (show ¬ (false = true) by decide)] at H;exact H
        clear H
        have H:=H1
        clear H1
        by_cases c39:0 ≤ (rd l1 x52_3)
        case neg =>
         rw [if_neg c39] at H
         exact absurd H (by simp)
        rw [if_pos c39] at H
        have c39b0:=eq_true c39
        have c39b1:decide (0 ≤ (rd l1 x52_3)) = true:=decide_eq_true c39
        clear c39
        obtain ⟨ji40,hji40⟩:∃ j_:Int,(shl .i64 (Go.bits .and .i64 (ji34) 1) (rd l1 x52_3)) = j_:=⟨_,rfl⟩
        replace H:(card_Turn.l1 k3 a0 l1 l2 x10_2 x47_2 (Go.bits .or .i64 x12_3 (ji40)) (y290.length:Int) x47_2 l1 (l1.length:Int) (wrap64 (x52_3 + 1))) = some (r1,r2):=by first | (rw [hji40] at H;exact H) | (simp only [hji40] at H ⊢;exact H)
        (try rw [hji40] at A35)
        have hji40_:(IntKind.i64.wrap ((Go.bits .and .i64 (ji34) 1) * 2 ^ min (rd l1 x52_3).toNat 64)) = ji40:=hji40
        have hji40z:(rd l1 x52_3) ≤ 64 → (IntKind.i64.wrap ((Go.bits .and .i64 (ji34) 1) * 2 ^ (rd l1 x52_3).toNat)) = ji40:=shl_small hji40
        have hji40y:(wrap64 ((Go.bits .and .i64 (ji34) 1) * 2 ^ min (rd l1 x52_3).toNat 64)) = ji40:=(i64_w _).symm.trans hji40_
        have hji40x:(rd l1 x52_3) ≤ 64 → (wrap64 ((Go.bits .and .i64 (ji34) 1) * 2 ^ (rd l1 x52_3).toNat)) = ji40:=fun h_=>(i64_w _).symm.trans (hji40z h_)
        have H':=Aside0.mk H
        clear H
        have p293:0 ≤ (x52_3:Int):=of_decide_eq_true (by first | (with_reducible assumption) | assumption)
        have q293:x52_3 < (l1.length:Int):=of_decide_eq_true (by first | (with_reducible assumption) | assumption)
        obtain ⟨ad293,e293,hx293_0⟩:=Kd.at_int HR1.out x52_3 p293 q293
        cases e293
        replace hx293_0:=(HB.out.cell (World.block_lt_of_cell? w _ hx293_0)).trans hx293_0
        replace p293:=eq_true p293
        replace q293:=eq_true q293
        go_wp2_with (first | ((with_reducible refine gate_callee (f:=72) rfl ?_);refine goesL_ (some 63) rfl rfl Try.func72 (by kernel_rfl) rfl #[.slice A2 l2.length c2,.int .i64 x52_3] rfl (by (try simp only [List.map_toArray,List.map_cons,List.map_nil]);first | done | rfl | (simp only [List.length_drop,List.length_take];rfl)) ?_;(with_reducible refine (slices_Contains_int_int.calls k3 _ _ l2 x52_3 false _ ?side1 ?side2 A35.out).mono ?_);(case side1=>repeat (first | exact (Kd.C_below HR2.out HB.out) | (with_reducible refine Kd.C_alloc ?_ _) | (with_reducible refine Kd.C_drewN ?_ _) | (with_reducible refine Kd.C_drew ?_)));(case side2=>exact HC2.out);rintro e w' ⟨rfl,⟨nd,rfl⟩⟩;refine ⟨_,rfl,?_⟩))
        go_roundg k3
        case measure=>have:=HJ4.out;have:=HK2.out;have:=HK3.out;omega
        case rel=>exact ⟨(Go.bits .or .i64 x12_3 (ji40)),(wrap64 (x52_3 + 1)),(by first | rfl | (simp;done) | (simp only [← hji40] <;> (first | rfl | simp)) | (simp [*];done)),(by first | rfl | (simp;done) | (simp [*];done)),H',⟨by have:=HJ4.out;have:=HK2.out;have:=HK3.out;omega⟩,⟨by (try simp only [hl10_2]);(with_reducible repeat (first | apply Kd.R_alloc | apply Kd.R_drewN | apply Kd.R_drew));exact HO_10.out⟩,⟨by (try simp only [hl10_2]);(with_reducible repeat (first | refine blk_drewN ?_ _ | refine blk_drew ?_ | refine blk_alloc ?_ _));exact BK287.out⟩,⟨by repeat (first | (with_reducible first | exact HB.out | apply below_alloc | apply pw_below_drewN | apply below_drew1 | refine below_set ?_ GE287.out) | exact HB.out)⟩⟩
       subst c36
       have H1:(if 0 ≤ (rd l1 x52_3) then (card_Turn.l1 k3 a0 l1 l2 x10_2 x47_2 (Go.bits .or .i64 x12_3 (shl .i64 (wrap64 (1 - (Go.bits .and .i64 (ji34) 1))) (rd l1 x52_3))) (y290.length:Int) x47_2 l1 (l1.length:Int) (wrap64 (x52_3 + 1))) else (none)) = some (r1,r2):=by rw [if_pos rfl] at H;exact H
       clear H
       have H:=H1
       clear H1
       by_cases c37:0 ≤ (rd l1 x52_3)
       case neg =>
        rw [if_neg c37] at H
        exact absurd H (by simp)
       rw [if_pos c37] at H
       have c37b0:=eq_true c37
       have c37b1:decide (0 ≤ (rd l1 x52_3)) = true:=decide_eq_true c37
       clear c37
       obtain ⟨ji38,hji38⟩:∃ j_:Int,(shl .i64 (wrap64 (1 - (Go.bits .and .i64 (ji34) 1))) (rd l1 x52_3)) = j_:=⟨_,rfl⟩
       replace H:(card_Turn.l1 k3 a0 l1 l2 x10_2 x47_2 (Go.bits .or .i64 x12_3 (ji38)) (y290.length:Int) x47_2 l1 (l1.length:Int) (wrap64 (x52_3 + 1))) = some (r1,r2):=by first | (rw [hji38] at H;exact H) | (simp only [hji38] at H ⊢;exact H)
       (try rw [hji38] at A35)
       have hji38_:(IntKind.i64.wrap ((wrap64 (1 - (Go.bits .and .i64 (ji34) 1))) * 2 ^ min (rd l1 x52_3).toNat 64)) = ji38:=hji38
       have hji38z:(rd l1 x52_3) ≤ 64 → (IntKind.i64.wrap ((wrap64 (1 - (Go.bits .and .i64 (ji34) 1))) * 2 ^ (rd l1 x52_3).toNat)) = ji38:=shl_small hji38
       have hji38y:(wrap64 ((wrap64 (1 - (Go.bits .and .i64 (ji34) 1))) * 2 ^ min (rd l1 x52_3).toNat 64)) = ji38:=(i64_w _).symm.trans hji38_
       have hji38x:(rd l1 x52_3) ≤ 64 → (wrap64 ((wrap64 (1 - (Go.bits .and .i64 (ji34) 1))) * 2 ^ (rd l1 x52_3).toNat)) = ji38:=fun h_=>(i64_w _).symm.trans (hji38z h_)
       have H':=Aside0.mk H
       clear H
       have p293:0 ≤ (x52_3:Int):=of_decide_eq_true (by first | (with_reducible assumption) | assumption)
       have q293:x52_3 < (l1.length:Int):=of_decide_eq_true (by first | (with_reducible assumption) | assumption)
       obtain ⟨ad293,e293,hx293_0⟩:=Kd.at_int HR1.out x52_3 p293 q293
       cases e293
       replace hx293_0:=(HB.out.cell (World.block_lt_of_cell? w _ hx293_0)).trans hx293_0
       replace p293:=eq_true p293
       replace q293:=eq_true q293
       go_wp2_with (first | ((with_reducible refine gate_callee (f:=72) rfl ?_);refine goesL_ (some 63) rfl rfl Try.func72 (by kernel_rfl) rfl #[.slice A2 l2.length c2,.int .i64 x52_3] rfl (by (try simp only [List.map_toArray,List.map_cons,List.map_nil]);first | done | rfl | (simp only [List.length_drop,List.length_take];rfl)) ?_;(with_reducible refine (slices_Contains_int_int.calls k3 _ _ l2 x52_3 true _ ?side1 ?side2 A35.out).mono ?_);(case side1=>repeat (first | exact (Kd.C_below HR2.out HB.out) | (with_reducible refine Kd.C_alloc ?_ _) | (with_reducible refine Kd.C_drewN ?_ _) | (with_reducible refine Kd.C_drew ?_)));(case side2=>exact HC2.out);rintro e w' ⟨rfl,⟨nd,rfl⟩⟩;refine ⟨_,rfl,?_⟩))
       go_roundg k3
       case measure=>have:=HJ4.out;have:=HK2.out;have:=HK3.out;omega
       case rel=>exact ⟨(Go.bits .or .i64 x12_3 (ji38)),(wrap64 (x52_3 + 1)),(by first | rfl | (simp;done) | (simp only [← hji38] <;> (first | rfl | simp)) | (simp [*];done)),(by first | rfl | (simp;done) | (simp [*];done)),H',⟨by have:=HJ4.out;have:=HK2.out;have:=HK3.out;omega⟩,⟨by (try simp only [hl10_2]);(with_reducible repeat (first | apply Kd.R_alloc | apply Kd.R_drewN | apply Kd.R_drew));exact HO_10.out⟩,⟨by (try simp only [hl10_2]);(with_reducible repeat (first | refine blk_drewN ?_ _ | refine blk_drew ?_ | refine blk_alloc ?_ _));exact BK287.out⟩,⟨by repeat (first | (with_reducible first | exact HB.out | apply below_alloc | apply pw_below_drewN | apply below_drew1 | refine below_set ?_ GE287.out) | exact HB.out)⟩⟩
end Go.Proofs.Ythpahlkhiknofaa.G
set_option linter.unusedSectionVars false
namespace Go.Proofs.Ythpahlkhiknofaa.P
open Go Go.RowKit Go.Proofs.Ythpahlkhiknofaa.M Go.Proofs.Ythpahlkhiknofaa.G
open Go.Proofs.YthpahlkhiknofaaW.PrintWords Go.Proofs.YthpahlkhiknofaaW.PrintMore
theorem shl_zero (v:Int):shl .i64 0 v = 0:=by unfold shl;rw [Int.zero_mul];decide
theorem and_one (p:Nat) (h:p < 2 ^ 60):Go.bits .and .i64 (p:Int) 1 = ((p % 2:Nat):Int):=by
 have:=ni_and p 1 (by omega) (by decide)
 rw [Nat.and_one_is_mod] at this
 exact this
def distB (n:Nat) (l:List Int):Nat → Nat → Bool:=allF fun k=>decide (0 ≤ rd l (k:Int)) && decide (rd l (k:Int) < (n:Int)) && !decide (rd l (k:Int) ∈ l.take k)
section
variable {l:List Int} (hl:l.length ≤ 1001) {n:Nat} (hn:1 ≤ n ∧ n ≤ 5)
include hl hn
theorem areVars_l0 (s:ByteArray):∀ d i,i + d = l.length → Ev (fun k=>card_function_areVars.l0 k l l (l.length:Int) (i:Int) (n:Int) s) (distB n l d i):=by
 intro d
 induction d with
 | zero =>
  intro i hi
  refine Ev.step (f:=fun _=>some true) (fun k=>?_) (Ev.now _)
  rw [card_function_areVars.l0,if_neg (by omega)]
 | succ d ih =>
  intro i hi
  have hil:i < l.length:=by omega
  have hnx:=ih (i + 1) (by omega)
  have hw:wrap64 ((n:Int) - 1) = (n:Int) - 1:=wrap_id (by omega) (by omega)
  refine Ev.step (fun k=>by rw [card_function_areVars.l0,if_pos (by omega),if_pos (by omega),if_pos (by omega),hw,wrap_succ (by omega),Int.toNat_natCast]) ?_
  unfold distB
  rw [allF]
  by_cases h0:0 ≤ rd l (i:Int)
  ·rw [decide_eq_true h0,Bool.true_and]
   by_cases h1:rd l (i:Int) < (n:Int)
   ·rw [decide_eq_true h1,Bool.true_and]
    have hwi:card_within.f (rd l (i:Int)) 0 ((n:Int) - 1) = some true:=by
     unfold card_within.f
     rw [if_pos h0,decide_eq_true (by omega)]
    rw [hwi]
    refine Ev.congr (fun k=>Option.bind_some _ _) (Ev.congr (fun k=>if_pos rfl) (Ev.congr (fun k=>if_pos (by omega)) (Ev.bind (ev_containsI (l:=l.take i) (by rw [List.length_take];omega) (rd l (i:Int))) ?_)))
    by_cases h2:rd l (i:Int) ∈ l.take i
    ·rw [decide_eq_true h2]
     exact Ev.congr (fun k=>if_pos rfl) (Ev.now _)
    ·rw [decide_eq_false h2]
     exact Ev.congr (fun k=>if_neg (by decide)) hnx
   ·rw [decide_eq_false h1,Bool.false_and,Bool.false_and]
    have hwi:card_within.f (rd l (i:Int)) 0 ((n:Int) - 1) = some false:=by
     unfold card_within.f
     rw [if_pos h0,decide_eq_false (by omega)]
    rw [hwi]
    exact Ev.congr (fun k=>Option.bind_some _ _) (Ev.congr (fun k=>if_neg (by decide)) (Ev.now _))
  ·rw [decide_eq_false h0,Bool.false_and,Bool.false_and,Bool.false_and]
   have hwi:card_within.f (rd l (i:Int)) 0 ((n:Int) - 1) = some false:=by
    unfold card_within.f
    rw [if_neg h0]
   rw [hwi]
   exact Ev.congr (fun k=>Option.bind_some _ _) (Ev.congr (fun k=>if_neg (by decide)) (Ev.now _))
theorem ev_areVars (s:ByteArray):Ev (fun k=>card_function_areVars.f k (n:Int) s l) (distB n l l.length 0):=areVars_l0 hl hn s l.length 0 (by omega)
end
structure Vs (n:Nat) (l:List Int):Prop where
 ge:∀ k (h:k < l.length),0 ≤ l[k]
 lt:∀ k (h:k < l.length),l[k] < (n:Int)
 ne:∀ j k (hj:j < k) (h:k < l.length),l[j]'(by omega) ≠ l[k]
def setN (l:List Int) (b:Nat → Bool):Nat → Nat
 | 0=>0
 | i + 1=>if b i = true then setN l b i ||| 2 ^ (rd l (i:Int)).toNat else setN l b i
theorem setN_lt {n:Nat} (hn:n ≤ 5) {l:List Int} (h:Vs n l) (b:Nat → Bool):∀ i,i ≤ l.length → setN l b i < 2 ^ n
 | 0,_=>Nat.two_pow_pos n
 | i + 1,hi=>by
  have ih:=setN_lt hn h b i (by omega)
  rw [setN]
  split
  ·have:=h.lt i (by omega)
   have:=h.ge i (by omega)
   rw [rd_get (show i < l.length by omega)]
   exact Nat.or_lt_two_pow ih (Nat.pow_lt_pow_right (by decide) (by omega))
  ·exact ih
theorem setN_bit {n:Nat} {l:List Int} (h:Vs n l) (b:Nat → Bool) (v:Nat):∀ i,i ≤ l.length → ((setN l b i).testBit v = true ↔ ∃ j,∃ hj:j < l.length,j < i ∧ b j = true ∧ l[j] = (v:Int))
 | 0,_=>by simp [setN]
 | i + 1,hi=>by
  have ih:=setN_bit h b v i (by omega)
  have hil:i < l.length:=by omega
  have hge:=h.ge i hil
  rw [setN,rd_get hil]
  by_cases hb:b i = true
  ·rw [if_pos hb,Nat.testBit_or,Bool.or_eq_true,ih]
   constructor
   ·rintro (⟨j,hj,h1,h2,h3⟩ | h1)
    ·exact ⟨j,hj,by omega,h2,h3⟩
    ·refine ⟨i,hil,by omega,hb,?_⟩
     have:l[i].toNat = v:=by
      apply Classical.byContradiction
      intro hne
      rw [Nat.testBit_two_pow_of_ne hne] at h1;cases h1
     omega
   ·rintro ⟨j,hj,h1,h2,h3⟩
    by_cases e:j = i
    ·subst e
     right
     have:l[j].toNat = v:=by omega
     rw [this];exact Nat.testBit_two_pow_self
    ·exact .inl ⟨j,hj,by omega,h2,h3⟩
  ·rw [if_neg hb,ih]
   constructor
   ·rintro ⟨j,hj,h1,h2,h3⟩
    exact ⟨j,hj,by omega,h2,h3⟩
   ·rintro ⟨j,hj,h1,h2,h3⟩
    by_cases e:j = i
    ·subst e;exact absurd h2 hb
    ·exact ⟨j,hj,by omega,h2,h3⟩
section
variable {c:ByteArray} {n:Nat} (hn:1 ≤ n ∧ n ≤ 5) (hs:c.size = 2 ^ n) {o fl:List Int} (ho:Vs n o) (hol:o.length = n) (hf:Vs n fl) (hfl:fl.length ≤ 1001)
include hn hs ho hol hf hfl
def bitF (fl:List Int) (p i:Nat):Bool:=p.testBit i != decide ((i:Int) ∈ fl)
def outF (c:ByteArray) (o fl:List Int) (p:Nat):Int:=bt c ((setN o (bitF fl p) o.length:Nat):Int)
theorem size_le:c.size ≤ 32:=by
 have:2 ^ n ≤ 2 ^ 5:=Nat.pow_le_pow_right (by decide) hn.2
 omega
theorem turn_l1 {x:List Int} {p:Nat} (hp:p < c.size) (hx:x.length = c.size) {v:ByteArray × Int} (hv:Ev (fun k=>card_Turn.l0 k c o fl (x.set p (outF c o fl p)) (c.size:Int) ((p + 1:Nat):Int)) v):∀ d i,i + d = o.length → Ev (fun k=>card_Turn.l1 k c o fl x (p:Int) (setN o (bitF fl p) i:Int) (c.size:Int) (p:Int) o (o.length:Int) (i:Int)) v:=by
 have h32:=size_le hn hs ho hol hf hfl
 intro d
 induction d with
 | zero =>
  intro i hi
  obtain rfl:i = o.length:=by omega
  have hlt:=setN_lt hn.2 ho (bitF fl p) o.length (by omega)
  refine Ev.step (fun k=>?_) hv
  rw [card_Turn.l1,if_neg (by omega),if_pos (by omega),if_pos (by omega),if_pos (by omega),if_pos (by omega),wrap_succ (by omega),Int.toNat_natCast]
  rfl
 | succ d ih =>
  intro i hi
  have hil:i < o.length:=by omega
  have hnx:=ih (i + 1) (by omega)
  have hg:=ho.ge i hil
  have hl:=ho.lt i hil
  have hlt:=setN_lt hn.2 ho (bitF fl p) i (by omega)
  have hpow:2 ^ n ≤ 32:=by omega
  obtain ⟨a,ha⟩:∃ a:Nat,o[i] = (a:Int):=⟨o[i].toNat,by omega⟩
  have hra:rd o (i:Int) = (a:Int):=by rw [rd_get hil,ha]
  have hap:2 ^ a ≤ 32:=by
   have:2 ^ a ≤ 2 ^ 5:=Nat.pow_le_pow_right (by decide) (by omega)
   omega
  rw [setN,hra,Int.toNat_natCast] at hnx
  have hpw:p >>> i < 2 ^ 60:=Nat.lt_of_le_of_lt (by rw [Nat.shiftRight_eq_div_pow];exact Nat.div_le_self _ _) (show p < 2 ^ 60 by omega)
  have hbit:Go.bits .and .i64 (shr .i64 (p:Int) (i:Int)) 1 = if p.testBit i = true then 1 else 0:=by
   rw [shr_nat (by omega),and_one _ hpw,Nat.testBit_eq_decide_div_mod_eq,← Nat.shiftRight_eq_div_pow]
   rcases Nat.mod_two_eq_zero_or_one (p >>> i) with h | h <;> simp [h]
  have or0:Go.bits .or .i64 (setN o (bitF fl p) i:Int) 0 = (setN o (bitF fl p) i:Int):=by
   have:=ni_or (setN o (bitF fl p) i) 0 (by omega) (by decide)
   rw [Nat.or_zero] at this
   exact this
  have or1:Go.bits .or .i64 (setN o (bitF fl p) i:Int) ((2 ^ a:Nat):Int) = ((setN o (bitF fl p) i ||| 2 ^ a:Nat):Int):=ni_or _ _ (by omega) (by omega)
  refine Ev.step (fun k=>by rw [card_Turn.l1,if_pos (by omega),if_pos (by omega),if_pos (by omega),hra,hbit,wrap_succ (by omega)]) (Ev.bind (ev_containsI (l:=fl) (by omega) (i:Int)) ?_)
  unfold bitF at hnx
  by_cases hm:(i:Int) ∈ fl
  ·rw [decide_eq_true hm] at hnx ⊢
   refine Ev.congr (fun k=>if_pos rfl) (Ev.congr (fun k=>if_pos (by omega)) ?_)
   by_cases hb:p.testBit i = true
   ·rw [hb,if_neg (by decide)] at hnx
    rw [if_pos hb,show wrap64 (1 - 1) = 0 from wrap_id (by decide) (by decide),shl_zero,or0]
    exact hnx
   ·have hb':p.testBit i = false:=by simpa using hb
    rw [hb',if_pos (by decide)] at hnx
    rw [if_neg hb,show wrap64 (1 - 0) = 1 from wrap_id (by decide) (by decide),shl_one (by omega),or1]
    exact hnx
  ·rw [decide_eq_false hm] at hnx ⊢
   refine Ev.congr (fun k=>if_neg (by decide)) (Ev.congr (fun k=>if_pos (by omega)) ?_)
   by_cases hb:p.testBit i = true
   ·rw [hb,if_pos (by decide)] at hnx
    rw [if_pos hb,shl_one (by omega),or1]
    exact hnx
   ·have hb':p.testBit i = false:=by simpa using hb
    rw [hb',if_neg (by decide)] at hnx
    rw [if_neg hb,shl_zero,or0]
    exact hnx
def part (c:ByteArray) (o fl:List Int) (i d:Nat):List Int:=(List.range i).map (outF c o fl) ++ List.replicate d 0
omit hn hs ho hol hf hfl in
theorem part_set (i d:Nat):(part c o fl i (d + 1)).set i (outF c o fl i) = part c o fl (i + 1) d:=by
 unfold part
 rw [List.set_append_right _ _ (by simp),List.length_map,List.length_range,Nat.sub_self,List.replicate_succ,List.set_cons_zero,List.range_succ,List.map_append,List.append_assoc]
 rfl
omit hn hs ho hol hf hfl in
theorem part_len (i d:Nat):(part c o fl i d).length = i + d:=by unfold part;simp
theorem turn_l0:∀ d i,i + d = c.size → Ev (fun k=>card_Turn.l0 k c o fl (part c o fl i d) (c.size:Int) (i:Int)) (strOfNums (part c o fl c.size 0),0):=by
 have h32:=size_le hn hs ho hol hf hfl
 intro d
 induction d with
 | zero =>
  intro i hi
  obtain rfl:i = c.size:=by omega
  refine Ev.step (f:=fun _=>some (strOfNums (part c o fl c.size 0),0)) (fun k=>?_) (Ev.now _)
  rw [card_Turn.l0,if_neg (by omega)]
 | succ d ih =>
  intro i hi
  have hnx:=ih (i + 1) (by omega)
  rw [← part_set] at hnx
  have h1:=turn_l1 hn hs ho hol hf hfl (x:=part c o fl i (d + 1)) (p:=i) (by omega) (by rw [part_len];omega) hnx o.length 0 (by omega)
  refine Ev.step (fun k=>?_) h1
  rw [card_Turn.l0,if_pos (by omega)]
  rfl
end
end Go.Proofs.Ythpahlkhiknofaa.P
namespace Go.Proofs.Ythpahlkhiknofaa.P
open Go Go.RowKit Go.Proofs.YthpahlkhiknofaaW.PrintWords
theorem data_get {s:ByteArray} {i:Nat} (h:i < s.size):s.data.toList[i]'(by rw [data_length];exact h) = s[i]:=by
 rw [Array.getElem_toList];rfl
def noH (s:ByteArray):Bool:=allF (fun i=>decide (bt s (i:Int) ≠ 45)) s.size 0
theorem indexByte_pos (c:UInt8):∀ (l:List UInt8),decide (0 ≤ Lib.indexByte l c) = l.any (· == c)
 | []=>rfl
 | b :: l=>by
  have ih:=indexByte_pos c l
  have hg:=Lib.indexByte_ge l c
  rw [Lib.indexByte,List.any_cons]
  by_cases hb:(b == c) = true
  ·rw [if_pos hb,hb];rfl
  rw [if_neg hb]
  have hb':(b == c) = false:=by simpa using hb
  rw [hb',Bool.false_or,← ih]
  by_cases h:Lib.indexByte l c = -1
  ·rw [h];rfl
  rw [if_neg (by simpa using h)]
  rw [decide_eq_true (by omega),decide_eq_true (by omega)]
theorem any_hyphen (s:ByteArray):decide (0 ≤ Lib.indexByte s.data.toList 45) = !noH s:=by
 rw [indexByte_pos,Bool.eq_iff_iff,List.any_eq_true,Bool.not_eq_true',← Bool.not_eq_true]
 unfold noH
 rw [allF_iff]
 constructor
 ·rintro ⟨x,hx,he⟩ hall
  obtain ⟨i,hi,rfl⟩:=List.getElem_of_mem hx
  have hi':i < s.size:=by rw [← data_length];exact hi
  have:=hall i (by omega) (by omega)
  rw [decide_eq_true_eq] at this
  apply this
  rw [bt_get hi']
  have e:s[i] = 45:=by rw [← data_get hi'];simpa using he
  rw [e];rfl
 intro h
 have:∃ i,i < s.size ∧ bt s (i:Int) = 45:=by
  apply Classical.byContradiction
  intro hno
  apply h
  intro j _ hj
  rw [decide_eq_true_eq]
  exact fun he=>hno ⟨j,by omega,he⟩
 obtain ⟨i,hi,he⟩:=this
 refine ⟨s.data.toList[i]'(by rw [data_length];exact hi),List.getElem_mem _,?_⟩
 rw [data_get hi]
 rw [bt_get hi] at he
 have:s[i] = 45:=by
  rw [← UInt8.toNat_inj]
  show s[i].toNat = 45
  omega
 rw [this];rfl
end Go.Proofs.Ythpahlkhiknofaa.P
namespace Go.Proofs.Ythpahlkhiknofaa.G
open Go Go.RowKit Go.Proofs.YthpahlkhiknofaaW.PrintWords
def strings_Contains.f (a0 a1:ByteArray):Option Bool:=if a1 = ⟨#[45]⟩ then some (!P.noH a0) else none
theorem strings_Contains.calls (a0 a1:ByteArray) (r:Bool) (w:World) (h:strings_Contains.f a0 a1 = some r):Calls Try.prog 92 #[.string a0,.string a1] w fun e w'=>e = .returned (.bool r) ∧ Below w.heap.size w w':=by
 unfold strings_Contains.f at h
 by_cases hb:a1 = ⟨#[45]⟩
 case neg =>
  rw [if_neg hb] at h;cases h
 rw [if_pos hb] at h
 obtain rfl:=Option.some.inj h
 subst hb
 refine (Try.strings_Contains_one a0 45 w).mono fun e w' he=>?_
 obtain ⟨rfl,rfl⟩:=he
 exact ⟨by rw [P.any_hyphen],Below.refl _ _⟩
end Go.Proofs.Ythpahlkhiknofaa.G
namespace Go.Proofs.Ythpahlkhiknofaa.G
open Go.RowKit Go.Proofs.YthpahlkhiknofaaW.PrintWords Go.Proofs.YthpahlkhiknofaaW.PrintLast Go.Proofs.YthpahlkhiknofaaW.PrintMore
set_option maxHeartbeats 8000000
set_option maxRecDepth 100000
attribute [local go_sem] max2_int min2_int max_two min_two max_three min_three max_four min_four   -- for this text's walks alone
def card_newTotal.f (a0:ByteArray):Option (Int × ByteArray × Bool):=(card_newFunction.f a0).bind fun bt116=>(if bt116.2.2 = true then ((strings_Contains.f a0 (⟨#[45]⟩:ByteArray)).bind fun t120=>(some (bt116.1,bt116.2.1,!t120))) else (some (bt116.1,bt116.2.1,false)))
def card_newTotal.T2:Bool × List (List Nat × List Nat):=(true,[([],[]),([],[]),([1],[1]),([2],[2]),([3,2,2],[2,3]),([4,2],[2,4]),([2,5],[2,5]),([0,4,0],[0]),([6,7,0,1,2,3,4,5,6,7],[6])])
def card_newTotal.B2:List Nat:=[0,0,2,6,14,30,62,31,255]
theorem card_newTotal.tab2:rtab .any (opsOf Try.f58 2) = card_newTotal.T2:=by kernel_rfl
theorem card_newTotal.bits2:waitsOk card_newTotal.T2.2 card_newTotal.B2 = true:=by kernel_rfl
theorem card_newTotal.calls (a0:ByteArray) (r1:Int) (r2:ByteArray) (r3:Bool) (w:World) (h:card_newTotal.f a0 = some (r1,r2,r3)) :
  Calls Try.prog 58 #[.string a0] w fun e w'=>e = .returned (.tuple #[.agg #[.int .i64 r1,.string r2],.bool r3]) ∧ Below w.heap.size w w':=by
 have hu81:=Try.underlying81
 have HB:=Aside0.mk (Below.refl w.heap.size w)
 have H:((card_newFunction.f a0).bind fun bt116=>(if bt116.2.2 = true then ((strings_Contains.f a0 (⟨#[45]⟩:ByteArray)).bind fun t120=>(some (bt116.1,bt116.2.1,!t120))) else (some (bt116.1,bt116.2.1,false)))) = some (r1,r2,r3):=h
 clear h
 replace H:=Option.bind_eq_some_iff.mp H
 obtain ⟨⟨t116,t117,t118⟩,A20,H⟩:=H
 replace H:(if t118 = true then ((strings_Contains.f a0 (⟨#[45]⟩:ByteArray)).bind fun t120=>(some (t116,t117,!t120))) else (some (t116,t117,false))) = some (r1,r2,r3):=H
 have A2:=Aside0.mk A20
 clear A20
 by_cases c3:t118 = true
 case neg =>
  replace c3:=Bool.eq_false_iff.mpr c3
  subst c3
  have H1:(some (t116,t117,false)) = some (r1,r2,r3):=by rw [if_neg (show ¬ (false = true) by decide)] at H;exact H
  clear H
  have H:=H1
  clear H1
  simp only [Option.some.injEq,Prod.mk.injEq] at H
  obtain ⟨rfl,rfl,rfl⟩:=H
  go_enter Try.func58,Try.ntmps58
  try go_wp2_with (first | ((with_reducible refine gate_dst (N:=2) rfl ?_);refine box_event ?hg (N:=2) ?hd (cs:=#[.int .i64 0,.string (⟨#[]⟩:ByteArray)]) (t:=81) ?hr ?_;(case hd=>rfl);(case hg=>rfl);(case hr=>first | (go_simp;done) | (go_simp;rfl));intro gb115 hg w15 hbox hb;have n0_:=Aside0.mk (below_step (by repeat (first | (with_reducible first | exact HB.out | apply below_alloc | apply pw_below_drewN | apply below_drew1) | exact HB.out)) hb);have n1_:=Aside0.mk (hbox);have n2_:=Aside0.mk ((by rw [hg];exact (below_size (by repeat (first | (with_reducible first | exact HB.out | apply below_alloc | apply pw_below_drewN | apply below_drew1) | exact HB.out))):w.heap.size ≤ gb115));have n3_:=Aside0.mk ((by rw [hg];exact (below_size (by repeat (first | (with_reducible first | exact HB.out | apply below_alloc | apply pw_below_drewN | apply below_drew1) | exact HB.out))):w.heap.size ≤ gb115));clear HB;have HB:=n0_;have BK115:=n1_;have GW115:=n2_;have GE115:=n3_;clear n0_ n1_ n2_ n3_;clear hb hbox hg) | ((with_reducible refine gate_callee (f:=65) rfl ?_);refine goesL_ (some 8) rfl rfl Try.func65 (by kernel_rfl) rfl #[.string a0] rfl (by (try simp only [List.map_toArray,List.map_cons,List.map_nil]);first | done | rfl | (simp only [List.length_drop,List.length_take];rfl)) ?_;(with_reducible refine (card_newFunction.calls a0 t116 t117 false _ A2.out).mono ?_);rintro e w16 ⟨rfl,hb⟩;refine ⟨_,rfl,?_⟩;have n0_:=Aside0.mk (blk_below (g:=gb115) (o:=.cells #[.int .i64 0,.string (⟨#[]⟩:ByteArray)] 81 (0,0)) (by (with_reducible repeat (first | refine blk_drewN ?_ _ | refine blk_drew ?_ | refine blk_alloc ?_ _));exact BK115.out) hb);have n1_:=Aside0.mk (below_step (by repeat (first | (with_reducible first | exact HB.out | apply below_alloc | apply pw_below_drewN | apply below_drew1 | refine below_set ?_ GE115.out) | exact HB.out)) hb);clear BK115;clear HB;have BK115:=n0_;have HB:=n1_;clear n0_ n1_;(try clear hb)) | ((with_reducible refine gate_dst (N:=4) rfl ?_);refine box_event ?hg (N:=4) ?hd (cs:=#[.int .i64 0,.string (⟨#[]⟩:ByteArray)]) (t:=81) ?hr ?_;(case hd=>rfl);(case hg=>rfl);(case hr=>first | (go_simp;done) | (go_simp;rfl));intro gb119 hg w17 hbox hb;have n0_:=Aside0.mk (blk_below (g:=gb115) (o:=.cells #[.int .i64 0,.string (⟨#[]⟩:ByteArray)] 81 (0,0)) (by (with_reducible repeat (first | refine blk_drewN ?_ _ | refine blk_drew ?_ | refine blk_alloc ?_ _));exact BK115.out) hb);have n1_:=Aside0.mk (below_step (by repeat (first | (with_reducible first | exact HB.out | apply below_alloc | apply pw_below_drewN | apply below_drew1 | refine below_set ?_ GE115.out) | exact HB.out)) hb);have n2_:=Aside0.mk (hbox);have n3_:=Aside0.mk ((by rw [hg];exact (below_size (by repeat (first | (with_reducible first | exact HB.out | apply below_alloc | apply pw_below_drewN | apply below_drew1 | refine below_set ?_ GE115.out) | exact HB.out))):w.heap.size ≤ gb119));have n4_:=Aside0.mk ((by rw [hg];exact (below_size (by repeat (first | (with_reducible first | exact HB.out | apply below_alloc | apply pw_below_drewN | apply below_drew1 | refine below_set ?_ GE115.out) | exact HB.out))):w.heap.size ≤ gb119));have n5_:=Aside0.mk ((by rw [hg];exact Nat.ne_of_lt (blk_lt (g:=gb115) (o:=.cells #[.int .i64 0,.string (⟨#[]⟩:ByteArray)] 81 (0,0)) (by (with_reducible repeat (first | refine blk_drewN ?_ _ | refine blk_drew ?_ | refine blk_alloc ?_ _));exact BK115.out)):gb115 ≠ gb119));have n6_:=Aside0.mk ((by rw [hg];exact Nat.ne_of_gt (blk_lt (g:=gb115) (o:=.cells #[.int .i64 0,.string (⟨#[]⟩:ByteArray)] 81 (0,0)) (by (with_reducible repeat (first | refine blk_drewN ?_ _ | refine blk_drew ?_ | refine blk_alloc ?_ _));exact BK115.out)):gb119 ≠ gb115));clear BK115;clear HB;have BK115:=n0_;have HB:=n1_;have BK119:=n2_;have GW119:=n3_;have GE119:=n4_;have NB115_119:=n5_;have NB119_115:=n6_;clear n0_ n1_ n2_ n3_ n4_ n5_ n6_;clear hb hbox hg;have hnb18:=NB119_115.out;have hnc18:=NB115_119.out;have hcz19_0:w17.cell? ⟨gb119,0,none⟩ = some (.int .i64 0):=(blk_cell BK119.out 0).trans rfl;have hcz19_1:w17.cell? ⟨gb119,1,none⟩ = some (.string (⟨#[]⟩:ByteArray)):=(blk_cell BK119.out 1).trans rfl;have hfz19_0:=blk_frozen BK119.out 0;have hfz19_1:=blk_frozen BK119.out 1))
  have n0_:Aside0 (((w17.setCell ⟨gb119,0,none⟩ (.int .i64 t116)).setCell ⟨gb119,1,none⟩ (.string t117)).heap[gb115]? = some (.cells #[.int .i64 0,.string (⟨#[]⟩:ByteArray)] 81 (0,0))):=⟨by (with_reducible repeat (first | refine blk_drewN ?_ _ | refine blk_drew ?_ | refine blk_alloc ?_ _));refine blk_far ?_ NB115_119.out _;(with_reducible repeat (first | refine blk_drewN ?_ _ | refine blk_drew ?_ | refine blk_alloc ?_ _));refine blk_far ?_ NB115_119.out _;(with_reducible repeat (first | refine blk_drewN ?_ _ | refine blk_drew ?_ | refine blk_alloc ?_ _));exact BK115.out⟩
  have n1_:Aside0 (((w17.setCell ⟨gb119,0,none⟩ (.int .i64 t116)).setCell ⟨gb119,1,none⟩ (.string t117)).heap[gb119]? = some (.cells #[.int .i64 t116,.string t117] 81 (0,0))):=⟨by (with_reducible repeat (first | refine blk_drewN ?_ _ | refine blk_drew ?_ | refine blk_alloc ?_ _));refine blk_put (cs:=#[.int .i64 t116,.string (⟨#[]⟩:ByteArray)]) ?_ 1 _ rfl;(with_reducible repeat (first | refine blk_drewN ?_ _ | refine blk_drew ?_ | refine blk_alloc ?_ _));refine blk_put (cs:=#[.int .i64 0,.string (⟨#[]⟩:ByteArray)]) ?_ 0 _ rfl;(with_reducible repeat (first | refine blk_drewN ?_ _ | refine blk_drew ?_ | refine blk_alloc ?_ _));exact BK119.out⟩
  have n2_:Aside0 (Below w.heap.size w ((w17.setCell ⟨gb119,0,none⟩ (.int .i64 t116)).setCell ⟨gb119,1,none⟩ (.string t117))):=⟨by repeat (first | (with_reducible first | exact HB.out | apply below_alloc | apply pw_below_drewN | apply below_drew1 | refine below_set ?_ GE115.out | refine below_set ?_ GE119.out) | exact HB.out)⟩
  (try clear BK115)
  (try clear BK119)
  (try clear HB)
  generalize ((w17.setCell ⟨gb119,0,none⟩ (.int .i64 t116)).setCell ⟨gb119,1,none⟩ (.string t117)) = w20 at n0_ n1_ n2_ ⊢
  have BK115:=n0_
  have BK119:=n1_
  have HB:=n2_
  clear n0_ n1_ n2_
  have n0_:=Aside0.mk (blk_drew BK115.out)
  have n1_:=Aside0.mk (blk_drew BK119.out)
  have n2_:=Aside0.mk (below_drew1 HB.out)
  clear BK115
  clear BK119
  clear HB
  have BK115:=n0_
  have BK119:=n1_
  have HB:=n2_
  clear n0_ n1_ n2_
  refine start_ (n:=9) (S:=fun w'=>w'.cell? ⟨gb119,0,none⟩ = some (.int .i64 t116) ∧ w'.cell? ⟨gb119,1,none⟩ = some (.string t117)) (ds:=[]) #[false,false,false,false,false,false,false,false,false] (by kernel_rfl) rfl rfl ⟨(blk_cell BK119.out 0).trans rfl,(blk_cell BK119.out 1).trans rfl⟩ (fun hHeld=>?_);refine with_tabW card_newTotal.tab2 card_newTotal.bits2 (fun HT_ HW_=>?_)
  generalize w20.drew = w21 at BK115 BK119 HB hHeld ⊢
  refine pure_ (i:=1) (N:=some 12) (v:=?_) (a':=?_) #[false,true,false,false,false,false,false,false,false] rfl rfl (any_of HT_.out (by kernel_rfl)) (fun _ _ _ h=>h) (Or.inl ⟨by rfl,?_⟩) ?_ ?_
  rotate_left
  ·intro w'
   go_simp
   with_reducible rfl
  rotate_left
  ·simp only [Act.put,List.setIfInBounds_toArray,List.set_cons_zero,List.set_cons_succ,i64_w,i32_w]
   rfl
  refine pure_ (i:=2) (N:=some 13) (v:=?_) (a':=?_) #[false,true,true,false,false,false,false,false,false] rfl rfl (any_of HT_.out (by kernel_rfl)) (fun _ _ _ h=>h) (Or.inl ⟨by rfl,?_⟩) ?_ ?_
  rotate_left
  ·intro w'
   go_simp
   with_reducible rfl
  rotate_left
  ·simp only [Act.put,List.setIfInBounds_toArray,List.set_cons_zero,List.set_cons_succ,i64_w,i32_w]
   rfl
  refine pure_ (i:=3) (N:=some 14) (v:=undef) (a':=?_) #[false,true,true,true,false,false,false,false,false] rfl rfl (any_of HT_.out (by kernel_rfl)) (fun _ _ _ h=>h) (Or.inr ⟨by rfl,rfl⟩) ?_ ?_
  rotate_left
  ·simp only [Act.put,List.setIfInBounds_toArray,List.set_cons_zero,List.set_cons_succ,i64_w,i32_w]
   rfl
  refine pure_ (i:=4) (N:=some 15) (v:=undef) (a':=?_) #[false,true,true,true,true,false,false,false,false] rfl rfl (any_of HT_.out (by kernel_rfl)) (fun _ _ _ h=>h) (Or.inr ⟨by rfl,rfl⟩) ?_ ?_
  rotate_left
  ·simp only [Act.put,List.setIfInBounds_toArray,List.set_cons_zero,List.set_cons_succ,i64_w,i32_w]
   rfl
  refine pure_ (i:=5) (N:=some 16) (v:=undef) (a':=?_) #[false,true,true,true,true,true,false,false,false] rfl rfl (any_of HT_.out (by kernel_rfl)) (fun _ _ _ h=>h) (Or.inr ⟨by rfl,rfl⟩) ?_ ?_
  rotate_left
  ·simp only [Act.put,List.setIfInBounds_toArray,List.set_cons_zero,List.set_cons_succ,i64_w,i32_w]
   rfl
  refine pure_ (i:=6) (N:=some 17) (v:=?_) (a':=?_) #[false,true,true,true,true,true,true,false,false] rfl rfl (any_of HT_.out (by kernel_rfl)) (fun _ _ _ h=>h) (Or.inl ⟨by rfl,?_⟩) ?_ ?_
  rotate_left
  ·intro w'
   go_simp
   with_reducible rfl
  rotate_left
  ·simp only [Act.put,List.setIfInBounds_toArray,List.set_cons_zero,List.set_cons_succ,i64_w,i32_w]
   rfl
  refine take_ (i:=0) (N:=some 11) (v:=?_) (a':=?_) #[true,true,true,true,true,true,true,false,false] rfl rfl (take_ofW HT_.out HW_.out (by kernel_rfl)) (fun _ _ _ h=>h) (Or.inl ⟨by rfl,?_⟩) hHeld ?_ ?_
  rotate_left
  ·rintro w' ⟨s0,s1⟩
   go_simp
   with_reducible rfl
  rotate_left
  ·simp only [Act.put,List.setIfInBounds_toArray,List.set_cons_zero,List.set_cons_succ,i64_w,i32_w]
   rfl
  refine one_ (i:=7) (N:=none) #[true,true,true,true,true,true,true,true,false] rfl rfl (one_of HT_.out (by kernel_rfl)) (by decide) (fun K hK=>?_)
  have hs22:w21.cell? ⟨gb115,0,none⟩ = some (.int .i64 0):=(blk_cell BK115.out 0).trans rfl
  have hfs22:=blk_frozen BK115.out 0
  have hns22_1:=NB119_115.out
  have hms22_1:=NB115_119.out
  have hs23:w21.cell? ⟨gb115,1,none⟩ = some (.string (⟨#[]⟩:ByteArray)):=(blk_cell BK115.out 1).trans rfl
  have hfs23:=blk_frozen BK115.out 1
  have hns23_1:=NB119_115.out
  have hms23_1:=NB115_119.out
  refine skip_ (w1:=?_) (by rfl) rfl ?_ ?_
  rotate_left
  ·go_simp
   rfl
  refine hK.out _ _ ⟨((cell_far (p:=⟨gb115,_,none⟩) NB119_115.out _).trans (((cell_far (p:=⟨gb115,_,none⟩) NB119_115.out _).trans (hHeld.1)))),((cell_far (p:=⟨gb115,_,none⟩) NB119_115.out _).trans (((cell_far (p:=⟨gb115,_,none⟩) NB119_115.out _).trans (hHeld.2))))⟩ (fun hHeld=>?_)
  clear hK K
  refine pure_ (i:=8) (N:=some 3) (v:=?_) (a':=?_) #[true,true,true,true,true,true,true,true,true] rfl rfl (any_of HT_.out (by kernel_rfl)) (fun _ _ _ h=>h) (Or.inl ⟨by rfl,?_⟩) ?_ ?_
  rotate_left
  ·intro w'
   go_simp
   with_reducible rfl
  rotate_left
  ·simp only [Act.put,List.setIfInBounds_toArray,List.set_cons_zero,List.set_cons_succ,i64_w,i32_w]
   rfl
  refine done_ (done_of HT_.out (by kernel_rfl)) ?_
  try go_wp2
  refine bodyPost_ret (results_ct rfl _ _ gb115 81 #[.int .i64 t116,.string t117] (0,0) _ rfl (by (with_reducible repeat (first | refine blk_drewN ?_ _ | refine blk_drew ?_ | refine blk_alloc ?_ _));refine blk_put (cs:=#[.int .i64 t116,.string (⟨#[]⟩:ByteArray)]) ?_ 1 _ rfl;(with_reducible repeat (first | refine blk_drewN ?_ _ | refine blk_drew ?_ | refine blk_alloc ?_ _));refine blk_put (cs:=#[.int .i64 0,.string (⟨#[]⟩:ByteArray)]) ?_ 0 _ rfl;(with_reducible repeat (first | refine blk_drewN ?_ _ | refine blk_drew ?_ | refine blk_alloc ?_ _));exact BK115.out) Try.underlying81 rfl (by kernel_rfl)) rfl ?_
  exact ⟨by first | rfl | (simp [errW_none,errW_some] <;> rfl) | (simp [*,errW_none,errW_some] <;> rfl),by repeat (first | (with_reducible first | exact HB.out | apply below_alloc | apply pw_below_drewN | apply below_drew1 | refine below_set ?_ GE115.out | refine below_set ?_ GE119.out) | exact HB.out)⟩
 subst c3
 have H1:((strings_Contains.f a0 (⟨#[45]⟩:ByteArray)).bind fun t120=>(some (t116,t117,!t120))) = some (r1,r2,r3):=by rw [if_pos rfl] at H;exact H
 clear H
 have H:=H1
 clear H1
 replace H:=Option.bind_eq_some_iff.mp H
 obtain ⟨t120,A40,H⟩:=H
 replace H:(some (t116,t117,!t120)) = some (r1,r2,r3):=H
 have A4:=Aside0.mk A40
 clear A40
 simp only [Option.some.injEq,Prod.mk.injEq] at H
 obtain ⟨rfl,rfl,rfl⟩:=H
 go_enter Try.func58,Try.ntmps58
 try go_wp2_with (first | ((with_reducible refine gate_dst (N:=2) rfl ?_);refine box_event ?hg (N:=2) ?hd (cs:=#[.int .i64 0,.string (⟨#[]⟩:ByteArray)]) (t:=81) ?hr ?_;(case hd=>rfl);(case hg=>rfl);(case hr=>first | (go_simp;done) | (go_simp;rfl));intro gb115 hg w5 hbox hb;have n0_:=Aside0.mk (below_step (by repeat (first | (with_reducible first | exact HB.out | apply below_alloc | apply pw_below_drewN | apply below_drew1) | exact HB.out)) hb);have n1_:=Aside0.mk (hbox);have n2_:=Aside0.mk ((by rw [hg];exact (below_size (by repeat (first | (with_reducible first | exact HB.out | apply below_alloc | apply pw_below_drewN | apply below_drew1) | exact HB.out))):w.heap.size ≤ gb115));have n3_:=Aside0.mk ((by rw [hg];exact (below_size (by repeat (first | (with_reducible first | exact HB.out | apply below_alloc | apply pw_below_drewN | apply below_drew1) | exact HB.out))):w.heap.size ≤ gb115));clear HB;have HB:=n0_;have BK115:=n1_;have GW115:=n2_;have GE115:=n3_;clear n0_ n1_ n2_ n3_;clear hb hbox hg) | ((with_reducible refine gate_callee (f:=65) rfl ?_);refine goesL_ (some 8) rfl rfl Try.func65 (by kernel_rfl) rfl #[.string a0] rfl (by (try simp only [List.map_toArray,List.map_cons,List.map_nil]);first | done | rfl | (simp only [List.length_drop,List.length_take];rfl)) ?_;(with_reducible refine (card_newFunction.calls a0 t116 t117 true _ A2.out).mono ?_);rintro e w6 ⟨rfl,hb⟩;refine ⟨_,rfl,?_⟩;have n0_:=Aside0.mk (blk_below (g:=gb115) (o:=.cells #[.int .i64 0,.string (⟨#[]⟩:ByteArray)] 81 (0,0)) (by (with_reducible repeat (first | refine blk_drewN ?_ _ | refine blk_drew ?_ | refine blk_alloc ?_ _));exact BK115.out) hb);have n1_:=Aside0.mk (below_step (by repeat (first | (with_reducible first | exact HB.out | apply below_alloc | apply pw_below_drewN | apply below_drew1 | refine below_set ?_ GE115.out) | exact HB.out)) hb);clear BK115;clear HB;have BK115:=n0_;have HB:=n1_;clear n0_ n1_;(try clear hb)) | ((with_reducible refine gate_dst (N:=4) rfl ?_);refine box_event ?hg (N:=4) ?hd (cs:=#[.int .i64 0,.string (⟨#[]⟩:ByteArray)]) (t:=81) ?hr ?_;(case hd=>rfl);(case hg=>rfl);(case hr=>first | (go_simp;done) | (go_simp;rfl));intro gb119 hg w7 hbox hb;have n0_:=Aside0.mk (blk_below (g:=gb115) (o:=.cells #[.int .i64 0,.string (⟨#[]⟩:ByteArray)] 81 (0,0)) (by (with_reducible repeat (first | refine blk_drewN ?_ _ | refine blk_drew ?_ | refine blk_alloc ?_ _));exact BK115.out) hb);have n1_:=Aside0.mk (below_step (by repeat (first | (with_reducible first | exact HB.out | apply below_alloc | apply pw_below_drewN | apply below_drew1 | refine below_set ?_ GE115.out) | exact HB.out)) hb);have n2_:=Aside0.mk (hbox);have n3_:=Aside0.mk ((by rw [hg];exact (below_size (by repeat (first | (with_reducible first | exact HB.out | apply below_alloc | apply pw_below_drewN | apply below_drew1 | refine below_set ?_ GE115.out) | exact HB.out))):w.heap.size ≤ gb119));have n4_:=Aside0.mk ((by rw [hg];exact (below_size (by repeat (first | (with_reducible first | exact HB.out | apply below_alloc | apply pw_below_drewN | apply below_drew1 | refine below_set ?_ GE115.out) | exact HB.out))):w.heap.size ≤ gb119));have n5_:=Aside0.mk ((by rw [hg];exact Nat.ne_of_lt (blk_lt (g:=gb115) (o:=.cells #[.int .i64 0,.string (⟨#[]⟩:ByteArray)] 81 (0,0)) (by (with_reducible repeat (first | refine blk_drewN ?_ _ | refine blk_drew ?_ | refine blk_alloc ?_ _));exact BK115.out)):gb115 ≠ gb119));have n6_:=Aside0.mk ((by rw [hg];exact Nat.ne_of_gt (blk_lt (g:=gb115) (o:=.cells #[.int .i64 0,.string (⟨#[]⟩:ByteArray)] 81 (0,0)) (by (with_reducible repeat (first | refine blk_drewN ?_ _ | refine blk_drew ?_ | refine blk_alloc ?_ _));exact BK115.out)):gb119 ≠ gb115));clear BK115;clear HB;have BK115:=n0_;have HB:=n1_;have BK119:=n2_;have GW119:=n3_;have GE119:=n4_;have NB115_119:=n5_;have NB119_115:=n6_;clear n0_ n1_ n2_ n3_ n4_ n5_ n6_;clear hb hbox hg;have hnb8:=NB119_115.out;have hnc8:=NB115_119.out;have hcz9_0:w7.cell? ⟨gb119,0,none⟩ = some (.int .i64 0):=(blk_cell BK119.out 0).trans rfl;have hcz9_1:w7.cell? ⟨gb119,1,none⟩ = some (.string (⟨#[]⟩:ByteArray)):=(blk_cell BK119.out 1).trans rfl;have hfz9_0:=blk_frozen BK119.out 0;have hfz9_1:=blk_frozen BK119.out 1))
 have n0_:Aside0 (((w7.setCell ⟨gb119,0,none⟩ (.int .i64 t116)).setCell ⟨gb119,1,none⟩ (.string t117)).heap[gb115]? = some (.cells #[.int .i64 0,.string (⟨#[]⟩:ByteArray)] 81 (0,0))):=⟨by (with_reducible repeat (first | refine blk_drewN ?_ _ | refine blk_drew ?_ | refine blk_alloc ?_ _));refine blk_far ?_ NB115_119.out _;(with_reducible repeat (first | refine blk_drewN ?_ _ | refine blk_drew ?_ | refine blk_alloc ?_ _));refine blk_far ?_ NB115_119.out _;(with_reducible repeat (first | refine blk_drewN ?_ _ | refine blk_drew ?_ | refine blk_alloc ?_ _));exact BK115.out⟩
 have n1_:Aside0 (((w7.setCell ⟨gb119,0,none⟩ (.int .i64 t116)).setCell ⟨gb119,1,none⟩ (.string t117)).heap[gb119]? = some (.cells #[.int .i64 t116,.string t117] 81 (0,0))):=⟨by (with_reducible repeat (first | refine blk_drewN ?_ _ | refine blk_drew ?_ | refine blk_alloc ?_ _));refine blk_put (cs:=#[.int .i64 t116,.string (⟨#[]⟩:ByteArray)]) ?_ 1 _ rfl;(with_reducible repeat (first | refine blk_drewN ?_ _ | refine blk_drew ?_ | refine blk_alloc ?_ _));refine blk_put (cs:=#[.int .i64 0,.string (⟨#[]⟩:ByteArray)]) ?_ 0 _ rfl;(with_reducible repeat (first | refine blk_drewN ?_ _ | refine blk_drew ?_ | refine blk_alloc ?_ _));exact BK119.out⟩
 have n2_:Aside0 (Below w.heap.size w ((w7.setCell ⟨gb119,0,none⟩ (.int .i64 t116)).setCell ⟨gb119,1,none⟩ (.string t117))):=⟨by repeat (first | (with_reducible first | exact HB.out | apply below_alloc | apply pw_below_drewN | apply below_drew1 | refine below_set ?_ GE115.out | refine below_set ?_ GE119.out) | exact HB.out)⟩
 (try clear BK115)
 (try clear BK119)
 (try clear HB)
 generalize ((w7.setCell ⟨gb119,0,none⟩ (.int .i64 t116)).setCell ⟨gb119,1,none⟩ (.string t117)) = w10 at n0_ n1_ n2_ ⊢
 have BK115:=n0_
 have BK119:=n1_
 have HB:=n2_
 clear n0_ n1_ n2_
 have n0_:=Aside0.mk (blk_drew BK115.out)
 have n1_:=Aside0.mk (blk_drew BK119.out)
 have n2_:=Aside0.mk (below_drew1 HB.out)
 clear BK115
 clear BK119
 clear HB
 have BK115:=n0_
 have BK119:=n1_
 have HB:=n2_
 clear n0_ n1_ n2_
 refine start_ (n:=9) (S:=fun w'=>w'.cell? ⟨gb119,0,none⟩ = some (.int .i64 t116) ∧ w'.cell? ⟨gb119,1,none⟩ = some (.string t117)) (ds:=[]) #[false,false,false,false,false,false,false,false,false] (by kernel_rfl) rfl rfl ⟨(blk_cell BK119.out 0).trans rfl,(blk_cell BK119.out 1).trans rfl⟩ (fun hHeld=>?_);refine with_tabW card_newTotal.tab2 card_newTotal.bits2 (fun HT_ HW_=>?_)
 generalize w10.drew = w11 at BK115 BK119 HB hHeld ⊢
 refine pure_ (i:=1) (N:=some 12) (v:=?_) (a':=?_) #[false,true,false,false,false,false,false,false,false] rfl rfl (any_of HT_.out (by kernel_rfl)) (fun _ _ _ h=>h) (Or.inl ⟨by rfl,?_⟩) ?_ ?_
 rotate_left
 ·intro w'
  go_simp
  with_reducible rfl
 rotate_left
 ·simp only [Act.put,List.setIfInBounds_toArray,List.set_cons_zero,List.set_cons_succ,i64_w,i32_w]
  rfl
 refine pure_ (i:=2) (N:=some 13) (v:=?_) (a':=?_) #[false,true,true,false,false,false,false,false,false] rfl rfl (any_of HT_.out (by kernel_rfl)) (fun _ _ _ h=>h) (Or.inl ⟨by rfl,?_⟩) ?_ ?_
 rotate_left
 ·intro w'
  go_simp
  with_reducible rfl
 rotate_left
 ·simp only [Act.put,List.setIfInBounds_toArray,List.set_cons_zero,List.set_cons_succ,i64_w,i32_w]
  rfl
 refine pure_ (i:=3) (N:=some 14) (v:=?_) (a':=?_) #[false,true,true,true,false,false,false,false,false] rfl rfl (any_of HT_.out (by kernel_rfl)) (fun _ _ _ h=>h) (Or.inl ⟨by rfl,?_⟩) ?_ ?_
 rotate_left
 ·intro w'
  go_simp
  with_reducible rfl
 rotate_left
 ·simp only [Act.put,List.setIfInBounds_toArray,List.set_cons_zero,List.set_cons_succ,i64_w,i32_w]
  rfl
 refine take_ (i:=0) (N:=some 11) (v:=?_) (a':=?_) #[true,true,true,true,false,false,false,false,false] rfl rfl (take_ofW HT_.out HW_.out (by kernel_rfl)) (fun _ _ _ h=>h) (Or.inl ⟨by rfl,?_⟩) hHeld ?_ ?_
 rotate_left
 ·rintro w' ⟨s0,s1⟩
  go_simp
  with_reducible rfl
 rotate_left
 ·simp only [Act.put,List.setIfInBounds_toArray,List.set_cons_zero,List.set_cons_succ,i64_w,i32_w]
  rfl
 refine one_ (i:=4) (N:=some 15) #[true,true,true,true,true,false,false,false,false] rfl rfl (one_of HT_.out (by kernel_rfl)) (by decide) (fun K hK=>?_)
 refine goes_ Try.func92 (by kernel_rfl) rfl #[.string a0,.string (⟨#[45]⟩:ByteArray)] (by rfl) rfl rfl (by (try simp only [List.map_toArray,List.map_cons,List.map_nil]);first | done | rfl | (simp only [List.length_drop,List.length_take];rfl)) ?_
 with_reducible refine (strings_Contains.calls a0 (⟨#[45]⟩:ByteArray) t120 _ A4.out).mono ?_
 rintro e w12 ⟨rfl,hb⟩
 refine ⟨_,rfl,?_⟩
 have n0_:=Aside0.mk (blk_below (g:=gb115) (o:=.cells #[.int .i64 0,.string (⟨#[]⟩:ByteArray)] 81 (0,0)) (by (with_reducible repeat (first | refine blk_drewN ?_ _ | refine blk_drew ?_ | refine blk_alloc ?_ _));exact BK115.out) hb)
 have n1_:=Aside0.mk (blk_below (g:=gb119) (o:=.cells #[.int .i64 t116,.string t117] 81 (0,0)) (by (with_reducible repeat (first | refine blk_drewN ?_ _ | refine blk_drew ?_ | refine blk_alloc ?_ _));exact BK119.out) hb)
 have n2_:=Aside0.mk (below_step (by repeat (first | (with_reducible first | exact HB.out | apply below_alloc | apply pw_below_drewN | apply below_drew1 | refine below_set ?_ GE115.out | refine below_set ?_ GE119.out) | exact HB.out)) hb)
 clear BK115
 clear BK119
 clear HB
 have BK115:=n0_
 have BK119:=n1_
 have HB:=n2_
 clear n0_ n1_ n2_
 (try clear hb)
 refine hK.out _ _ ⟨(blk_cell BK119.out 0).trans rfl,(blk_cell BK119.out 1).trans rfl⟩ (fun hHeld=>?_)
 clear hK K
 refine norm_ (a':=?_) ?_ ?_
 rotate_left
 ·show Act.put _ (some 15) _ = _
  simp only [Act.put,List.setIfInBounds_toArray,List.set_cons_zero,List.set_cons_succ,i64_w,i32_w]
  rfl
 refine pure_ (i:=5) (N:=some 16) (v:=?_) (a':=?_) #[true,true,true,true,true,true,false,false,false] rfl rfl (any_of HT_.out (by kernel_rfl)) (fun _ _ _ h=>h) (Or.inl ⟨by rfl,?_⟩) ?_ ?_
 rotate_left
 ·intro w'
  go_simp
  with_reducible rfl
 rotate_left
 ·simp only [Act.put,List.setIfInBounds_toArray,List.set_cons_zero,List.set_cons_succ,i64_w,i32_w]
  rfl
 refine pure_ (i:=6) (N:=some 17) (v:=?_) (a':=?_) #[true,true,true,true,true,true,true,false,false] rfl rfl (any_of HT_.out (by kernel_rfl)) (fun _ _ _ h=>h) (Or.inl ⟨by rfl,?_⟩) ?_ ?_
 rotate_left
 ·intro w'
  go_simp
  with_reducible rfl
 rotate_left
 ·simp only [Act.put,List.setIfInBounds_toArray,List.set_cons_zero,List.set_cons_succ,i64_w,i32_w]
  rfl
 refine one_ (i:=7) (N:=none) #[true,true,true,true,true,true,true,true,false] rfl rfl (one_of HT_.out (by kernel_rfl)) (by decide) (fun K hK=>?_)
 have hs13:w12.cell? ⟨gb115,0,none⟩ = some (.int .i64 0):=(blk_cell BK115.out 0).trans rfl
 have hfs13:=blk_frozen BK115.out 0
 have hns13_1:=NB119_115.out
 have hms13_1:=NB115_119.out
 have hs14:w12.cell? ⟨gb115,1,none⟩ = some (.string (⟨#[]⟩:ByteArray)):=(blk_cell BK115.out 1).trans rfl
 have hfs14:=blk_frozen BK115.out 1
 have hns14_1:=NB119_115.out
 have hms14_1:=NB115_119.out
 refine skip_ (w1:=?_) (by rfl) rfl ?_ ?_
 rotate_left
 ·go_simp
  rfl
 refine hK.out _ _ ⟨((cell_far (p:=⟨gb115,_,none⟩) NB119_115.out _).trans (((cell_far (p:=⟨gb115,_,none⟩) NB119_115.out _).trans (hHeld.1)))),((cell_far (p:=⟨gb115,_,none⟩) NB119_115.out _).trans (((cell_far (p:=⟨gb115,_,none⟩) NB119_115.out _).trans (hHeld.2))))⟩ (fun hHeld=>?_)
 clear hK K
 refine pure_ (i:=8) (N:=some 3) (v:=?_) (a':=?_) #[true,true,true,true,true,true,true,true,true] rfl rfl (any_of HT_.out (by kernel_rfl)) (fun _ _ _ h=>h) (Or.inl ⟨by rfl,?_⟩) ?_ ?_
 rotate_left
 ·intro w'
  go_simp
  with_reducible rfl
 rotate_left
 ·simp only [Act.put,List.setIfInBounds_toArray,List.set_cons_zero,List.set_cons_succ,i64_w,i32_w]
  rfl
 refine done_ (done_of HT_.out (by kernel_rfl)) ?_
 try go_wp2
 refine bodyPost_ret (results_ct rfl _ _ gb115 81 #[.int .i64 t116,.string t117] (0,0) _ rfl (by (with_reducible repeat (first | refine blk_drewN ?_ _ | refine blk_drew ?_ | refine blk_alloc ?_ _));refine blk_put (cs:=#[.int .i64 t116,.string (⟨#[]⟩:ByteArray)]) ?_ 1 _ rfl;(with_reducible repeat (first | refine blk_drewN ?_ _ | refine blk_drew ?_ | refine blk_alloc ?_ _));refine blk_put (cs:=#[.int .i64 0,.string (⟨#[]⟩:ByteArray)]) ?_ 0 _ rfl;(with_reducible repeat (first | refine blk_drewN ?_ _ | refine blk_drew ?_ | refine blk_alloc ?_ _));exact BK115.out) Try.underlying81 rfl (by kernel_rfl)) rfl ?_
 exact ⟨by first | rfl | (simp [errW_none,errW_some] <;> rfl) | (simp [*,errW_none,errW_some] <;> rfl),by repeat (first | (with_reducible first | exact HB.out | apply below_alloc | apply pw_below_drewN | apply below_drew1 | refine below_set ?_ GE115.out | refine below_set ?_ GE119.out) | exact HB.out)⟩
end Go.Proofs.Ythpahlkhiknofaa.G
set_option linter.unusedSectionVars false
namespace Go.Proofs.Ythpahlkhiknofaa.P
open Go Go.RowKit Go.Proofs.Ythpahlkhiknofaa.M Go.Proofs.Ythpahlkhiknofaa.G
open Go.Proofs.YthpahlkhiknofaaW.PrintWords Go.Proofs.YthpahlkhiknofaaW.PrintMore
/-- A total function. -/
def totB (c:ByteArray):Bool:=decide (fnN c ≠ 0) && noH c
theorem newT {c:ByteArray} (hc:c.size ≤ 40):∃ m:Int,(totB c = true → m = (fnN c:Int)) ∧ card_newTotal.f c = some (m,c,totB c):=by
  obtain ⟨m,hm,e⟩:=newF hc
  refine ⟨m,fun h=>hm (by unfold totB at h;rw [Bool.and_eq_true,decide_eq_true_eq] at h;exact h.1),?_⟩
  unfold card_newTotal.f
  rw [e,Option.bind_some]
  unfold totB
  by_cases h:fnN c ≠ 0
  · rw [decide_eq_true h,Bool.true_and,if_pos rfl]
    unfold strings_Contains.f
    rw [if_pos rfl,Option.bind_some,Bool.not_not]
  · rw [decide_eq_false h,Bool.false_and,if_neg (show ¬ (false = true) by decide)]
/-- What is known of a total function. -/
structure Tot (c:ByteArray) (n:Nat):Prop where
  n1:1 ≤ n
  n5:n ≤ 5
  size:c.size = 2 ^ n
  le:c.size ≤ 32
  val:∀ p,p < c.size → bt c (p:Int) = 48 ∨ bt c (p:Int) = 49
theorem tot_of {c:ByteArray} (hc:c.size ≤ 40) (h:totB c = true):Tot c (fnN c):=by
  unfold totB at h
  rw [Bool.and_eq_true,decide_eq_true_eq] at h
  obtain ⟨h1,h2,h3,h4,h5⟩:=fnN_pos hc h.1
  refine ⟨h3,h4,h2,h5,fun p hp=>?_⟩
  have a:=(allF_iff _ _ _).1 h1 p (by omega) (by omega)
  have b:=(allF_iff _ _ _).1 h.2 p (by omega) (by omega)
  unfold isC at a
  simp only [decide_eq_true_eq] at a b
  omega
section
variable {c:ByteArray} {n:Nat} (hT:Tot c n)
include hT
def tabI (m:Nat) (f:Nat → Int):List Int:=(List.range m).map f
omit hT in
theorem tabI_len (m:Nat) (f:Nat → Int):(tabI m f).length = m:=by simp [tabI]
omit hT in
theorem tabI_rd {m:Nat} {f:Nat → Int} {i:Nat} (h:i < m):rd (tabI m f) (i:Int) = f i:=by
  rw [rd_get (by rw [tabI_len];exact h)];simp [tabI]
omit hT in
theorem tabI_set {m:Nat} {f:Nat → Int} {i:Nat} (y:Int):(tabI m f).set i y = tabI m (fun v=>if v = i then y else f v):=by
  apply List.ext_getElem
  · simp [tabI]
  · intro j h1 h2
    rw [List.getElem_set]
    simp only [tabI,List.getElem_map,List.getElem_range]
    by_cases e:i = j
    · rw [if_pos e,if_pos e.symm]
    · rw [if_neg e,if_neg (fun h=>e h.symm)]
omit hT in
theorem tabI_congr {m:Nat} {f g:Nat → Int} (h:∀ v,v < m → f v = g v):tabI m f = tabI m g:=List.map_congr_left fun v hv=>h v (List.mem_range.1 hv)
end
end Go.Proofs.Ythpahlkhiknofaa.P
namespace Go.Proofs.Ythpahlkhiknofaa.H
open Go Go.RowKit Go.Shelf Go.Proofs.Ythpahlkhiknofaa.G Go.Proofs.YthpahlkhiknofaaW.PrintWords
def fitL {α:Type} (l:List α):Prop:=l.length ≤ 9223372036854775807
instance {α:Type} (l:List α):Decidable (fitL l):=by unfold fitL;exact inferInstance
theorem wide_fn (f:FuncId):Fence.wide.fn f = True:=rfl
attribute [local go_sem] Oper.semAt_some wide_fn
theorem within_val (a lo hi:Int) (w:World):Calls Try.prog 61 #[.int .i64 a,.int .i64 lo,.int .i64 hi] w fun e w'=>e = .returned (.bool (decide (lo ≤ a ∧ a ≤ hi))) ∧ Drawn0 w w':=by
 refine card_within.calls a lo hi _ w ?_
 unfold card_within.f
 by_cases h:a ≥ lo
 case neg =>
  rw [if_neg h]
  congr 1
  rw [eq_comm,decide_eq_false_iff_not]
  exact fun k=>h k.1
 rw [if_pos h]
 congr 1
 rw [Bool.eq_iff_iff,decide_eq_true_iff,decide_eq_true_iff]
 exact ⟨fun k=>⟨h,k⟩,fun k=>k.2⟩
set_option maxHeartbeats 1000000 in
theorem c60_any (x:Int) (w:World):Calls Try.prog 60 #[.int .i64 x] w fun e w'=>e = .returned (.bool (!decide (-1000000 ≤ x ∧ x ≤ 1000000))) ∧ Below w.heap.size w w':=by
 refine (callsIn_wide (n:=9)).1 ?_
 refine callsIn_of_wp Try.func60 rfl trivial ?_
 simp only [Try.ntmps60,List.size_toArray,List.length_cons,List.length_nil,Nat.reduceAdd,Nat.reduceSub,Array.replicate_succ,Array.replicate_zero,List.push_toArray,List.append_toArray,List.nil_append,List.cons_append]
 gi_wp2_with fail
 refine (callsIn_wide.2 (within_val x (-1000000) 1000000 w)).mono ?_
 rintro e w1 ⟨rfl,hd⟩
 have HB:=Lib.hid hd.below
 clear hd
 gi_wp2_with fail
 exact bodyPost_ret (v:=.bool (!decide (-1000000 ≤ x) || !decide (x ≤ 1000000))) (results_tmp (t:=2) rfl _ _ _) rfl ⟨by rw [Bool.decide_and,Bool.not_and],HB.out⟩
set_option maxHeartbeats 4000000 in
set_option maxRecDepth 100000 in
theorem index60 (A:Option Addr) (c:Nat) (l:List Int) (w:World) (hl:Kd.C (Kd.int .i64) w A l.length l) (hlen:fitL l) :
  Calls Try.prog 93 #[.slice A l.length c,.func (.func 60) #[] #[]] w fun e w'=>∃ i:Int,e = .returned (.int .i64 i) ∧ decide (0 ≤ i) = l.any (fun x=>!decide (-1000000 ≤ x ∧ x ≤ 1000000)) ∧ Below w.heap.size w w':=by
 refine (callsIn_wide (n:=9)).1 ?_
 refine callsIn_of_wp Try.func93 rfl trivial ?_
 simp only [Try.ntmps93,List.size_toArray,List.length_cons,List.length_nil,Nat.reduceAdd,Nat.reduceSub,Array.replicate_succ,Array.replicate_zero,List.push_toArray,List.append_toArray,List.nil_append,List.cons_append]
 unfold fitL at hlen
 have HL:=Lib.hid hl
 clear hl
 gi_wp2_with fail
 gi_loopg [8] l.length (fun k s8 W=>∃ i:Nat,s8 = .int .i64 (i:Int) ∧ i ≤ l.length ∧ l.length ≤ k + i ∧ Below w.heap.size w W ∧ (l.take i).any (fun x=>!decide (-1000000 ≤ x ∧ x ≤ 1000000)) = false)
 case atStart=>exact ⟨0,rfl,by omega,by omega,Below.refl _ _,rfl⟩
 case round =>
  obtain ⟨i,rfl,hi,hk,hB,hany⟩:=hrel
  have HB:=Lib.hid hB
  have HA:=Lib.hid hany
  clear hB hany
  by_cases hil:i < l.length
  case neg =>
   have:i = l.length:=by omega
   subst this
   gi_wp2_with fail
   refine bodyPost_ret (v:=.int .i64 (-1)) (results_tmp (t:=4) rfl _ _ _) rfl ⟨-1,rfl,?_,HB.out⟩
   have:=HA.out
   rw [List.take_length] at this
   rw [this];simp
  have hI0:(0:Int) ≤ (i:Int):=by omega
  have hI1:(i:Int) < (l.length:Int):=by omega
  obtain ⟨ad,e0,hx⟩:=Kd.at_int HL.out (i:Int) hI0 hI1
  cases e0
  rw [Int.toNat_natCast] at hx
  have hcell:=(HB.out.cell (World.block_lt_of_cell? w _ hx)).trans hx
  obtain ⟨x,hxe⟩:∃ x,rd l (i:Int) = x:=⟨_,rfl⟩
  rw [hxe] at hcell
  have hxi:l[i] = x:=by rw [← hxe];unfold rd;simp [hil]
  have HXE:=Lib.hid hxi
  clear hx hxe hxi
  gi_wp2_with fail
  refine (callsIn_wide.2 (c60_any x _)).mono ?_
  rintro e w1 ⟨rfl,hb1⟩
  have HB1:=Lib.hid hb1
  have hs:=HB.out.size
  obtain ⟨q,hq⟩:∃ q,(!decide (-1000000 ≤ x ∧ x ≤ 1000000)) = q:=⟨_,rfl⟩
  rw [hq]
  have HQ:=Lib.hid hq
  clear hb1 hq
  cases q with
  | true =>
   gi_wp2_with fail
   refine bodyPost_ret (v:=.int .i64 (i:Int)) (results_tmp (t:=4) rfl _ _ _) rfl ⟨i,rfl,?_,HB.out.trans (HB1.out.mono hs)⟩
   have:l.any (fun x=>!decide (-1000000 ≤ x ∧ x ≤ 1000000)) = true:=List.any_eq_true.2 ⟨x,by rw [← HXE.out];exact List.getElem_mem hil,HQ.out⟩
   rw [this];simp
  | false =>
   gi_wp2_with fail
   gi_roundg (l.length - (i + 1))
   case measure=>omega
   case rel =>
    refine ⟨i + 1,by simp,by omega,by omega,HB.out.trans (HB1.out.mono hs),?_⟩
    rw [List.take_succ_eq_append_getElem hil,List.any_append,HA.out,HXE.out]
    simp only [List.any_cons,List.any_nil,Bool.or_false,Bool.false_or]
    exact HQ.out
set_option maxHeartbeats 4000000 in
theorem contains60 (A:Option Addr) (c:Nat) (l:List Int) (w:World) (hl:Kd.C (Kd.int .i64) w A l.length l) (hlen:fitL l) :
  Calls Try.prog 59 #[.slice A l.length c,.func (.func 60) #[] #[]] w fun e w'=>e = .returned (.bool (l.any (fun x=>!decide (-1000000 ≤ x ∧ x ≤ 1000000)))) ∧ Below w.heap.size w w':=by
 refine (callsIn_wide (n:=9)).1 ?_
 refine callsIn_of_wp Try.func59 rfl trivial ?_
 simp only [Try.ntmps59,List.size_toArray,List.length_cons,List.length_nil,Nat.reduceAdd,Nat.reduceSub,Array.replicate_succ,Array.replicate_zero,List.push_toArray,List.append_toArray,List.nil_append,List.cons_append]
 have HI:=Lib.hid (index60 A c l w hl hlen)
 clear hl
 gi_wp2_with fail
 refine (callsIn_wide.2 HI.out).mono ?_
 rintro e w1 ⟨i,rfl,hd,hb1⟩
 have HD:=Lib.hid hd
 have HB1:=Lib.hid hb1
 clear hd hb1
 gi_wp2_with fail
 refine bodyPost_ret (v:=.bool (decide (0 ≤ i))) (results_tmp (t:=4) rfl _ _ _) rfl ⟨by rw [HD.out],HB1.out⟩
end Go.Proofs.Ythpahlkhiknofaa.H
namespace Go.Proofs.Ythpahlkhiknofaa.G
open Go Go.RowKit Go.Proofs.YthpahlkhiknofaaW.PrintWords
def contains60.f (l0:List Int):Option ((Bool)):=if H.fitL l0 then some (l0.any (fun x=>!decide (-1000000 ≤ x ∧ x ≤ 1000000))) else none
theorem contains60.calls (A0:Option Addr) (c0:Nat) (l0:List Int) (r:Bool) (w:World) (hr0:Kd.C (Kd.int .i64) w A0 l0.length l0) (_:l0.length ≤ c0) (h:contains60.f l0 = some r) :
  Calls Try.prog 59 #[.slice A0 l0.length c0,.func (.func 60) #[] #[]] w fun e w'=>e = .returned (.bool r) ∧ Below w.heap.size w w':=by
 unfold contains60.f at h
 by_cases hf:H.fitL l0
 case neg =>
  rw [if_neg hf] at h
  cases h
 rw [if_pos hf] at h
 obtain rfl:=Option.some.inj h
 exact H.contains60 A0 c0 l0 w hr0 hf
end Go.Proofs.Ythpahlkhiknofaa.G
namespace Go.Proofs.Ythpahlkhiknofaa.H
open Go Go.RowKit Go.Shelf Go.Proofs.Ythpahlkhiknofaa.G Go.Proofs.Ythpahlkhiknofaa.P Go.Proofs.YthpahlkhiknofaaW.PrintWords
attribute [local go_sem] Oper.semAt_some wide_fn
def stV (xs:List Int):Value:=.agg (xs.map (Value.int .i64)).toArray
def valS (xs:List Int) (p:Int):Nat → Int → Int
 | 0,a=>a
 | i + 1,a=>if (Go.bits .and .i64 (p / 2 ^ i) 1 == 1) = true then wrap64 (valS xs p i a + rd xs (i:Int)) else valS xs p i a
def stO (x0 x1 x2 x3 x4 x5:Int):Obj:=.cells #[.int .i64 x0,.int .i64 x1,.int .i64 x2,.int .i64 x3,.int .i64 x4,.int .i64 x5] 88
theorem st_cell (x0 x1 x2 x3 x4 x5:Int) (w:World) {i:Nat} (hi:i ≤ 5):(w.alloc (stO x0 x1 x2 x3 x4 x5)).cell? { block:=w.heap.size,off:=i } = some (.int .i64 (rd [x0,x1,x2,x3,x4,x5] (i:Int))):=by
 have h:=World.alloc_heap_new w (stO x0 x1 x2 x3 x4 x5)
 rcases (by omega:i = 0 ∨ i = 1 ∨ i = 2 ∨ i = 3 ∨ i = 4 ∨ i = 5) with rfl | rfl | rfl | rfl | rfl | rfl <;> (unfold World.cell?;rw [h];rfl)
set_option maxHeartbeats 4000000 in
set_option maxRecDepth 100000 in
theorem value62 (x0 x1 x2 x3 x4 x5:Int) (n:Nat) (hn:n ≤ 5) (p:Int) (w:World) :
  Calls Try.prog 62 #[stV [x0,x1,x2,x3,x4,x5],.int .i64 (n:Int),.int .i64 p] w fun e w'=>e = .returned (.int .i64 (valS [x0,x1,x2,x3,x4,x5] p n (wrap64 (-rd [x0,x1,x2,x3,x4,x5] (n:Int))))) ∧ Below w.heap.size w w':=by
 refine (callsIn_wide (n:=9)).1 ?_
 refine callsIn_of_wp Try.func62 rfl trivial ?_
 simp only [Try.ntmps62,List.size_toArray,List.length_cons,List.length_nil,Nat.reduceAdd,Nat.reduceSub,Array.replicate_succ,Array.replicate_zero,List.push_toArray,List.append_toArray,List.nil_append,List.cons_append]
 unfold stV
 have hcn:=st_cell x0 x1 x2 x3 x4 x5 w hn
 obtain ⟨y,hy⟩:∃ y,rd [x0,x1,x2,x3,x4,x5] (n:Int) = y:=⟨_,rfl⟩
 rw [hy] at hcn ⊢
 unfold stO at hcn
 gi_wp2_with fail
 gi_loopg [7,14] n (fun k s7 s14 W=>∃ i:Nat,s14 = .int .i64 (i:Int) ∧ s7 = .int .i64 (valS [x0,x1,x2,x3,x4,x5] p i (wrap64 (-y))) ∧ i ≤ n ∧ n ≤ k + i ∧ Below (w.heap.size + 1) (w.alloc (stO x0 x1 x2 x3 x4 x5)) W)
 case atStart=>exact ⟨0,rfl,rfl,by omega,by omega,Below.refl _ _⟩
 case round =>
  obtain ⟨i,rfl,rfl,hi,hk,hB⟩:=hrel
  have HB:=Lib.hid hB
  clear hB
  by_cases hil:i < n
  case neg =>
   have:i = n:=by omega
   subst this
   gi_wp2_with fail
   exact bodyPost_ret (v:=.int .i64 (valS [x0,x1,x2,x3,x4,x5] p i (wrap64 (-y)))) (results_tmp (t:=6) rfl _ _ _) rfl ⟨rfl,((Below.refl _ _).alloc (Nat.le_refl _) _).trans (HB.out.mono (Nat.le_succ _))⟩
  have hcell:=(HB.out.cell (p:={ block:=w.heap.size,off:=i }) (Nat.lt_succ_self _)).trans (st_cell x0 x1 x2 x3 x4 x5 w (show i ≤ 5 by omega))
  obtain ⟨x,hxe⟩:∃ x,rd [x0,x1,x2,x3,x4,x5] (i:Int) = x:=⟨_,rfl⟩
  rw [hxe] at hcell
  have HXE:=Lib.hid hxe
  clear hxe
  obtain ⟨q,hq⟩:∃ q,(Go.bits .and .i64 (p / 2 ^ i) 1 == 1) = q:=⟨_,rfl⟩
  have hsh:0 ≤ (i:Int):=by omega
  have hw1:=wrap_succ (i:=i) (by omega)
  have HQ:=Lib.hid hq
  cases q with
  | true =>
   gi_wp2_with fail
   gi_roundg (n - (i + 1))
   case measure=>omega
   case rel =>
    refine ⟨i + 1,by first | rfl | simp [hw1],?_,by omega,by omega,HB.out⟩
    rw [valS,if_pos HQ.out,HXE.out]
  | false =>
   gi_wp2_with fail
   gi_roundg (n - (i + 1))
   case measure=>omega
   case rel =>
    refine ⟨i + 1,by first | rfl | simp [hw1],?_,by omega,by omega,HB.out⟩
    rw [valS,if_neg (by rw [HQ.out];decide)]
end Go.Proofs.Ythpahlkhiknofaa.H
namespace Go.Proofs.Ythpahlkhiknofaa.G
open Go Go.RowKit Go.Proofs.YthpahlkhiknofaaW.PrintWords
/-- The bounds under which the walk was told. -/
def okT (s:ByteArray) (n:Int) (t:ByteArray) (ok:Bool):Prop:=s = t ∧ s.size ≤ 1000 ∧ (ok = true → 0 ≤ n ∧ n ≤ 5)
instance (s:ByteArray) (n:Int) (t:ByteArray) (ok:Bool):Decidable (okT s n t ok):=by unfold okT;exact inferInstance
end Go.Proofs.Ythpahlkhiknofaa.G
namespace Go.Proofs.Ythpahlkhiknofaa.H
open Go Go.RowKit Go.Shelf Go.Proofs.Ythpahlkhiknofaa.G Go.Proofs.Ythpahlkhiknofaa.P Go.Proofs.YthpahlkhiknofaaW.PrintWords Go.Proofs.YthpahlkhiknofaaW.PrintLast Go.Proofs.YthpahlkhiknofaaW.PrintMore
def rzL (xs:List Int) (n:Nat) (s:ByteArray):Nat → Nat → Int
 | 0,_=>0
 | d + 1,p=>if (decide (valS xs (p:Int) n (wrap64 (-rd xs (n:Int))) ≥ 0) != (bt s (p:Int) == 49)) = true then 10 else rzL xs n s d (p + 1)
def padL (l:List Int):List Int:=[rd l 0,rd l 1,rd l 2,rd l 3,rd l 4,rd l 5]
def bad60 (l:List Int):Bool:=l.any (fun x=>!decide (-1000000 ≤ x ∧ x ≤ 1000000))
def rzV (s:ByteArray) (l:List Int) (n:Nat) (ok:Bool):Int:=if ok = true ∧ l.length = n + 1 ∧ bad60 l = false then rzL (padL l) n s s.size 0 else 2
theorem below_cells {N g:Nat} {w0:World} (hg:N ≤ g):∀ (vs:List Value) (o:Nat) (W:World),Below N w0 W → Below N w0 (W.setCells g o vs)
 | [],_,_,h=>h
 | v :: r,o,W,h=>by
  rw [World.setCells]
  exact below_cells hg r (o + 1) _ (h.setCell hg _)
set_option maxRecDepth 100000 in
theorem copy_in (W:World) (l:List Int) (n:Nat) (hn:n ≤ 5) (hl:l.length = n + 1) (A:Option Addr) (c:Nat) (hC:Kd.C (Kd.int .i64) W A l.length l) :
  ∃ W4,(Builtin.copy_ #[22,22] 3 #[.slice (some { block:=W.heap.size,off:=0 }) 6 6,.slice A l.length c]).run Try.prog (W.alloc (stO 0 0 0 0 0 0)) = .ok (goInt l.length) W4 ∧ Below W.heap.size W W4 ∧ W4.heap[W.heap.size]? = some (.cells ((padL l).map (Value.int .i64)).toArray 88 (0,0)):=by
 have hC3:=Kd.C_alloc hC (stO 0 0 0 0 0 0)
 obtain ⟨ad,rfl,_⟩:=Kd.at_int hC3 0 (by omega) (by omega)
 have hh:=World.alloc_heap_new W (stO 0 0 0 0 0 0)
 have hlen:(l.map (Value.int .i64)).length = n + 1:=by rw [List.length_map,hl]
 have hr:=run_copy_cells (P:=Try.prog) (W.alloc (stO 0 0 0 0 0 0)) 22 22 3 3 W.heap.size 0 6 6 ad l.length c (l.map (Value.int .i64)) Try.underlying22 (by kernel_rfl) (by rw [hlen,hl];exact (Nat.min_eq_left (by omega)).symm) (fun j v hv=>by
  have hj:j < l.length:=by
   rcases Nat.lt_or_ge j l.length with h | h
   ·exact h
   rw [List.getElem?_eq_none (by rw [List.length_map];exact h)] at hv
   cases hv
  obtain ⟨ad',e,hc⟩:=Kd.at_int hC3 (j:Int) (by omega) (by omega)
  cases e
  rw [Int.toNat_natCast] at hc
  rw [hc,← hv,List.getElem?_map,List.getElem?_eq_getElem hj,rd_get hj];rfl) (fun j hj=>by
  rw [Nat.zero_add,st_cell 0 0 0 0 0 0 W (show j ≤ 5 by omega)];rfl) (fun j _=>by
  rw [Nat.zero_add];exact blk_frozen hh _) (by intro u hu;simp only [List.mem_map] at hu;obtain ⟨q,_,rfl⟩:=hu;rfl)
 obtain ⟨cur',h3,h4,h5⟩:=setCells_row (e:=88) (l.map (Value.int .i64)) 0 (W.alloc (stO 0 0 0 0 0 0)) _ hh (by rw [hlen];show _ ≤ 6;omega)
 rw [List.length_map] at hr
 refine ⟨_,hr,below_cells (Nat.le_refl _) _ _ _ ((Below.refl _ _).alloc (Nat.le_refl _) _),?_⟩
 rw [h3]
 have e:cur' = ((padL l).map (Value.int .i64)).toArray:=by
  rw [← Array.toArray_toList (xs:=cur'),h5]
  congr 1
  rcases l with _ | ⟨a,_ | ⟨b,_ | ⟨c,_ | ⟨d,_ | ⟨e,_ | ⟨f,_ | ⟨g,t⟩⟩⟩⟩⟩⟩⟩ <;> first | (exfalso;simp only [List.length_cons,List.length_nil] at hl;omega) | rfl | simp [padL,rd]
 rw [e]
set_option maxHeartbeats 4000000 in
set_option maxRecDepth 100000 in
theorem realize19 (s:ByteArray) (A:Option Addr) (c:Nat) (l:List Int) (w:World) (hl:Kd.C (Kd.int .i64) w A l.length l) (hlc:l.length ≤ c) (hlen:fitL l) (hsz:s.size ≤ 1000) (n:Nat) (ok:Bool) (hnew:card_newTotal.f s = some ((n:Int),s,ok)) (hn:n ≤ 5) :
  Calls Try.prog 19 #[.string s,.slice A l.length c] w fun e w'=>e = .returned (.int .i64 (rzV s l n ok)) ∧ Below w.heap.size w w':=by
 have HL:=Lib.hid hl
 clear hl
 have HN:=Lib.hid (card_newTotal.calls s n s ok w hnew)
 go_enter Try.func19,Try.ntmps19
 go_wp2_with fail
 refine HN.out.mono ?_
 rintro e w1 ⟨rfl,hb1⟩
 have HB1:=Lib.hid hb1
 clear hb1
 cases ok with
 | false =>
  go_wp2_with fail
  exact bodyPost_ret (v:=.int .i64 2) (results_tmp (t:=4) rfl _ _ _) rfl ⟨by unfold rzV;rw [if_neg (fun h=>by cases h.1)],HB1.out.alloc HB1.out.size _⟩
 | true =>
  obtain ⟨q,hq⟩:∃ q,((l.length:Int) != (n:Int) + 1) = q:=⟨_,rfl⟩
  have HQ:=Lib.hid hq
  cases q with
  | true =>
   have hq2:=bne_iff_ne.1 hq
   go_wp2_with fail
   exact bodyPost_ret (v:=.int .i64 2) (results_tmp (t:=4) rfl _ _ _) rfl ⟨by unfold rzV;rw [if_neg (fun h=>hq2 (by have:=h.2.1;omega))],HB1.out.alloc HB1.out.size _⟩
  | false =>
   have hq2:(l.length:Int) = (n:Int) + 1:=bne_eq_false_iff_eq.1 hq
   go_wp2_with fail
   have HC:=Lib.hid (contains60 A c l (w1.alloc (Obj.cells #[Value.int IntKind.i64 n,Value.string s] 81)) (Kd.C_alloc (Kd.C_below HL.out HB1.out) _) hlen)
   refine HC.out.mono ?_
   rintro e w2 ⟨rfl,hb2⟩
   have HB2:=Lib.hid hb2
   clear hb2
   obtain ⟨b,hb⟩:∃ b,bad60 l = b:=⟨_,rfl⟩
   have hb':(l.any fun x=>!decide (-1000000 ≤ x ∧ x ≤ 1000000)) = b:=hb
   rw [hb']
   have HBB:=Lib.hid hb
   clear hb hb'
   cases b with
   | true =>
    go_wp2_with fail
    exact bodyPost_ret (v:=.int .i64 2) (results_tmp (t:=4) rfl _ _ _) rfl ⟨by unfold rzV;rw [if_neg (fun h=>by rw [HBB.out] at h;cases h.2.2)],(HB1.out.alloc HB1.out.size _).trans (HB2.out.mono (by rw [World.size_alloc];have:=HB1.out.size;omega))⟩
   | false =>
    have hl1:l.length = n + 1:=by omega
    have HL1:=Lib.hid hl1
    have hC2:=Kd.C_below (Kd.C_alloc (Kd.C_below HL.out HB1.out) (Obj.cells #[Value.int IntKind.i64 n,Value.string s] 81)) HB2.out
    obtain ⟨W4,hr4,hb4,hh4⟩:=copy_in w2 l n hn hl1 A c hC2
    have hc4:W4.cell? { block:=w1.heap.size,off:=0 } = some (.int .i64 (n:Int)):=by
     have h1:(w1.alloc (Obj.cells #[Value.int IntKind.i64 n,Value.string s] 81)).cell? { block:=w1.heap.size,off:=0 } = some (.int .i64 (n:Int)):=by
      have h:=World.alloc_heap_new w1 (Obj.cells #[Value.int IntKind.i64 n,Value.string s] 81)
      unfold World.cell?;rw [h];rfl
     have hs2:=HB2.out.size
     rw [World.size_alloc] at hs2
     exact (hb4.cell (p:={ block:=w1.heap.size,off:=0 }) (by show w1.heap.size < _;omega)).trans ((HB2.out.cell (p:={ block:=w1.heap.size,off:=0 }) (by rw [World.size_alloc];exact Nat.lt_succ_self _)).trans h1)
    have HH4:=Lib.hid hh4
    have HC4:=Lib.hid hc4
    have HB4:=Lib.hid hb4
    unfold stO at hr4
    rw [hl1] at hr4
    have HR4:=Lib.hid hr4
    clear hh4 hc4 hb4 hr4
    go_wp2_with fail
    rw [HR4.out]
    simp only [Result.andThen_ok,Oper.uponIn_value]
    go_wp2_with fail
    go_loopg [33] s.size (fun k s33 W=>∃ p:Nat,s33 = .int .i64 (p:Int) ∧ p ≤ s.size ∧ s.size ≤ k + p ∧ Below W4.heap.size W4 W ∧ rzL (padL l) n s s.size 0 = rzL (padL l) n s (s.size - p) p)
    case atStart=>exact ⟨0,rfl,by omega,by omega,Below.refl _ _,rfl⟩
    case round =>
     obtain ⟨p,rfl,hp,hk,hB,hv⟩:=hrel
     have HB:=Lib.hid hB
     have HV:=Lib.hid hv
     clear hB hv
     have hg4:=blk_lt HH4.out
     have hWh:_ = _:=(HB.out.block w2.heap.size hg4).trans HH4.out
     by_cases hps:p < s.size
     case neg =>
      have:p = s.size:=by omega
      subst this
      go_wp2_with fail
      refine bodyPost_ret (v:=.int .i64 0) (results_tmp (t:=4) rfl _ _ _) rfl ⟨?_,?_⟩
      ·unfold rzV
       rw [if_pos ⟨rfl,HL1.out,HBB.out⟩,HV.out,Nat.sub_self];rfl
      have hs1:=HB1.out.size
      have hs2:=HB2.out.size
      rw [World.size_alloc] at hs2
      have hs4:=HB4.out.size
      exact (((HB1.out.alloc hs1 _).trans (HB2.out.mono (by rw [World.size_alloc];omega))).trans (HB4.out.mono (by omega))).trans (HB.out.mono (by omega))
     have hld:=run_loadVar_row (P:=Try.prog) _ w2.heap.size 88 88 _ (0,0) _ hWh Try.underlying88 rfl (by kernel_rfl)
     have hc:=(HB.out.cell (p:={ block:=w1.heap.size,off:=0 }) (World.block_lt_of_cell? _ _ HC4.out)).trans HC4.out
     have hbt:=bt_at s (p:Int)
     go_wp2_with fail
     refine start_ (n:=11) (S:=fun w'=>w'.heap[w2.heap.size]? = some (.cells ((padL l).map (Value.int .i64)).toArray 88 (0,0)) ∧ w'.cell? { block:=w1.heap.size,off:=0 } = some (.int .i64 (n:Int))) (ds:=[]) #[false,false,false,false,false,false,false,false,false,false,false] (by kernel_rfl) rfl rfl ⟨hWh,hc⟩ (fun hHeld=>?_)
     refine pure_ (i:=1) (N:=some 37) (v:=?_) (a':=?_) #[false,true,false,false,false,false,false,false,false,false,false] rfl rfl (by kernel_rfl) (fun _ _ _ h=>h) (Or.inl ⟨by rfl,?_⟩) ?_ ?_
     rotate_left
     ·intro w'
      go_simp
      with_reducible rfl
     rotate_left
     ·simp only [Act.put,List.setIfInBounds_toArray,List.set_cons_zero,List.set_cons_succ,i64_w,i32_w]
      rfl
     refine take_ (i:=0) (N:=some 36) (v:=?_) (a':=?_) #[true,true,false,false,false,false,false,false,false,false,false] rfl rfl (by kernel_rfl) (fun _ _ _ h=>h) (Or.inl ⟨by rfl,?_⟩) hHeld ?_ ?_
     rotate_left
     ·rintro w' ⟨s0,s1⟩
      have q0:w'.cell? { block:=w2.heap.size,off:=0 } = some (.int .i64 (rd l 0)):=(cell_of_row w' w2.heap.size 0 _ _ _ s0).trans rfl
      have q1:w'.cell? { block:=w2.heap.size,off:=1 } = some (.int .i64 (rd l 1)):=(cell_of_row w' w2.heap.size 1 _ _ _ s0).trans rfl
      have q2:w'.cell? { block:=w2.heap.size,off:=2 } = some (.int .i64 (rd l 2)):=(cell_of_row w' w2.heap.size 2 _ _ _ s0).trans rfl
      have q3:w'.cell? { block:=w2.heap.size,off:=3 } = some (.int .i64 (rd l 3)):=(cell_of_row w' w2.heap.size 3 _ _ _ s0).trans rfl
      have q4:w'.cell? { block:=w2.heap.size,off:=4 } = some (.int .i64 (rd l 4)):=(cell_of_row w' w2.heap.size 4 _ _ _ s0).trans rfl
      have q5:w'.cell? { block:=w2.heap.size,off:=5 } = some (.int .i64 (rd l 5)):=(cell_of_row w' w2.heap.size 5 _ _ _ s0).trans rfl
      go_simp
      with_reducible rfl
     rotate_left
     ·simp only [Act.put,List.setIfInBounds_toArray,List.set_cons_zero,List.set_cons_succ,i64_w,i32_w]
      rfl
     refine take_ (i:=2) (N:=some 38) (v:=?_) (a':=?_) #[true,true,true,false,false,false,false,false,false,false,false] rfl rfl (by kernel_rfl) (fun _ _ _ h=>h) (Or.inl ⟨by rfl,?_⟩) hHeld ?_ ?_
     rotate_left
     ·rintro w' ⟨s0,s1⟩
      have q0:w'.cell? { block:=w2.heap.size,off:=0 } = some (.int .i64 (rd l 0)):=(cell_of_row w' w2.heap.size 0 _ _ _ s0).trans rfl
      have q1:w'.cell? { block:=w2.heap.size,off:=1 } = some (.int .i64 (rd l 1)):=(cell_of_row w' w2.heap.size 1 _ _ _ s0).trans rfl
      have q2:w'.cell? { block:=w2.heap.size,off:=2 } = some (.int .i64 (rd l 2)):=(cell_of_row w' w2.heap.size 2 _ _ _ s0).trans rfl
      have q3:w'.cell? { block:=w2.heap.size,off:=3 } = some (.int .i64 (rd l 3)):=(cell_of_row w' w2.heap.size 3 _ _ _ s0).trans rfl
      have q4:w'.cell? { block:=w2.heap.size,off:=4 } = some (.int .i64 (rd l 4)):=(cell_of_row w' w2.heap.size 4 _ _ _ s0).trans rfl
      have q5:w'.cell? { block:=w2.heap.size,off:=5 } = some (.int .i64 (rd l 5)):=(cell_of_row w' w2.heap.size 5 _ _ _ s0).trans rfl
      go_simp
      with_reducible rfl
     rotate_left
     ·simp only [Act.put,List.setIfInBounds_toArray,List.set_cons_zero,List.set_cons_succ,i64_w,i32_w]
      rfl
     refine pure_ (i:=3) (N:=some 39) (v:=?_) (a':=?_) #[true,true,true,true,false,false,false,false,false,false,false] rfl rfl (by kernel_rfl) (fun _ _ _ h=>h) (Or.inl ⟨by rfl,?_⟩) ?_ ?_
     rotate_left
     ·intro w'
      go_simp
      with_reducible rfl
     rotate_left
     ·simp only [Act.put,List.setIfInBounds_toArray,List.set_cons_zero,List.set_cons_succ,i64_w,i32_w]
      rfl
     refine pure_ (i:=6) (N:=some 42) (v:=?_) (a':=?_) #[true,true,true,true,false,false,true,false,false,false,false] rfl rfl (by kernel_rfl) (fun _ _ _ h=>h) (Or.inl ⟨by rfl,?_⟩) ?_ ?_
     rotate_left
     ·intro w'
      go_simp
      with_reducible rfl
     rotate_left
     ·simp only [Act.put,List.setIfInBounds_toArray,List.set_cons_zero,List.set_cons_succ,i64_w,i32_w]
      rfl
     refine pure_ (i:=7) (N:=some 43) (v:=?_) (a':=?_) #[true,true,true,true,false,false,true,true,false,false,false] rfl rfl (by kernel_rfl) (fun _ _ _ h=>h) (Or.inl ⟨by rfl,?_⟩) ?_ ?_
     rotate_left
     ·intro w'
      go_simp
      with_reducible rfl
     rotate_left
     ·simp only [Act.put,List.setIfInBounds_toArray,List.set_cons_zero,List.set_cons_succ,i64_w,i32_w]
      rfl
     refine pure_ (i:=8) (N:=some 44) (v:=?_) (a':=?_) #[true,true,true,true,false,false,true,true,true,false,false] rfl rfl (by kernel_rfl) (fun _ _ _ h=>h) (Or.inl ⟨by rfl,?_⟩) ?_ ?_
     rotate_left
     ·intro w'
      go_simp
      with_reducible rfl
     rotate_left
     ·simp only [Act.put,List.setIfInBounds_toArray,List.set_cons_zero,List.set_cons_succ,i64_w,i32_w]
      rfl
     refine pure_ (i:=9) (N:=some 45) (v:=?_) (a':=?_) #[true,true,true,true,false,false,true,true,true,true,false] rfl rfl (by kernel_rfl) (fun _ _ _ h=>h) (Or.inl ⟨by rfl,?_⟩) ?_ ?_
     rotate_left
     ·intro w'
      go_simp
      with_reducible rfl
     rotate_left
     ·simp only [Act.put,List.setIfInBounds_toArray,List.set_cons_zero,List.set_cons_succ,i64_w,i32_w]
      rfl
     refine one_ (i:=4) (N:=some 40) #[true,true,true,true,true,false,true,true,true,true,false] rfl rfl (by kernel_rfl) (by decide) (fun K hK=>?_)
     refine call_ 62 #[stV (padL l),.int .i64 (n:Int),.int .i64 (p:Int)] (by rfl) rfl (by go_simp;rfl) ?_
     refine (value62 (rd l 0) (rd l 1) (rd l 2) (rd l 3) (rd l 4) (rd l 5) n hn (p:Int) _).mono ?_
     rintro e w5 ⟨rfl,hb5⟩
     have hst5:w5.heap[w2.heap.size]? = some (.cells ((padL l).map (Value.int .i64)).toArray 88 (0,0)) ∧ w5.cell? { block:=w1.heap.size,off:=0 } = some (.int .i64 (n:Int)):=⟨(hb5.block _ (blk_lt hHeld.1)).trans hHeld.1,(hb5.cell (p:={ block:=w1.heap.size,off:=0 }) (World.block_lt_of_cell? _ _ hHeld.2)).trans hHeld.2⟩
     have HB5:=Lib.hid ((below_drew1 HB.out).trans (hb5.mono HB.out.size))
     refine ⟨_,rfl,hK.out _ _ hst5 (fun _=>?_)⟩
     clear hK K
     obtain ⟨vv,hvv⟩:∃ v,valS [rd l 0,rd l 1,rd l 2,rd l 3,rd l 4,rd l 5] (p:Int) n (wrap64 (-rd [rd l 0,rd l 1,rd l 2,rd l 3,rd l 4,rd l 5] (n:Int))) = v:=⟨_,rfl⟩
     rw [hvv]
     refine pure_ (i:=5) (N:=some 41) (v:=?_) (a':=?_) #[true,true,true,true,true,true,true,true,true,true,false] rfl rfl (by kernel_rfl) (fun _ _ _ h=>h) (Or.inl ⟨by rfl,?_⟩) ?_ ?_
     rotate_left
     ·intro w'
      go_simp
      with_reducible rfl
     rotate_left
     ·simp only [Act.put,List.setIfInBounds_toArray,List.set_cons_zero,List.set_cons_succ,i64_w,i32_w]
      rfl
     refine pure_ (i:=10) (N:=some 46) (v:=?_) (a':=?_) #[true,true,true,true,true,true,true,true,true,true,true] rfl rfl (by kernel_rfl) (fun _ _ _ h=>h) (Or.inl ⟨by rfl,?_⟩) ?_ ?_
     rotate_left
     ·intro w'
      go_simp
      with_reducible rfl
     rotate_left
     ·simp only [Act.put,List.setIfInBounds_toArray,List.set_cons_zero,List.set_cons_succ,i64_w,i32_w]
      rfl
     refine done_ (by kernel_rfl) ?_
     have hstep:rzL (padL l) n s (s.size - p) p = if (decide (vv ≥ 0) != (bt s (p:Int) == 49)) = true then 10 else rzL (padL l) n s (s.size - (p + 1)) (p + 1):=by
      rw [← hvv,show s.size - p = (s.size - (p + 1)) + 1 by omega];rfl
     have HS:=Lib.hid hstep
     clear hstep
     obtain ⟨q,hq⟩:∃ q,(decide (vv ≥ 0) != (bt s (p:Int) == 49)) = q:=⟨_,rfl⟩
     have HQ5:=Lib.hid hq
     rw [bt_get hps] at hq
     simp only [ge_iff_le] at hq
     have hq':(!decide (0 ≤ vv) == (((s[p]).toNat:Int) == 49)) = q:=by
      rw [← hq];cases decide (0 ≤ vv) <;> cases (((s[p]).toNat:Int) == 49) <;> rfl
     rw [hq']
     clear hq hq'
     cases q with
     | true =>
      go_wp2_with fail
      refine bodyPost_ret (v:=.int .i64 10) (results_tmp (t:=4) rfl _ _ _) rfl ⟨?_,?_⟩
      ·unfold rzV
       rw [if_pos ⟨rfl,HL1.out,HBB.out⟩,HV.out,HS.out,if_pos HQ5.out]
      have hs1:=HB1.out.size
      have hs2:=HB2.out.size
      rw [World.size_alloc] at hs2
      have hs4:=HB4.out.size
      exact (((HB1.out.alloc hs1 _).trans (HB2.out.mono (by rw [World.size_alloc];omega))).trans (HB4.out.mono (by omega))).trans (HB5.out.mono (by omega))
     | false =>
      go_wp2_with fail
      go_roundg (s.size - (p + 1))
      case measure=>omega
      case rel=>exact ⟨p + 1,by simp,by omega,by omega,HB5.out,by rw [HV.out,HS.out,if_neg (by rw [HQ5.out];decide)]⟩
end Go.Proofs.Ythpahlkhiknofaa.H
namespace Go.Proofs.Ythpahlkhiknofaa.H
open Go Go.RowKit Go.Shelf Go.Proofs.Ythpahlkhiknofaa.G Go.Proofs.Ythpahlkhiknofaa.P Go.Proofs.YthpahlkhiknofaaW.PrintWords Go.Proofs.YthpahlkhiknofaaW.PrintLast Go.Proofs.YthpahlkhiknofaaW.PrintMore
set_option maxHeartbeats 4000000 in
set_option maxRecDepth 100000 in
theorem realize_no (s:ByteArray) (A:Option Addr) (len c:Nat) (w:World) (n:Int) (hnew:card_newTotal.f s = some (n,s,false)) :
  Calls Try.prog 19 #[.string s,.slice A len c] w fun e w'=>e = .returned (.int .i64 2) ∧ Below w.heap.size w w':=by
 have HN:=Lib.hid (card_newTotal.calls s n s false w hnew)
 go_enter Try.func19,Try.ntmps19
 go_wp2_with fail
 refine HN.out.mono ?_
 rintro e w1 ⟨rfl,hb1⟩
 have HB1:=Lib.hid hb1
 clear hb1
 go_wp2_with fail
 exact bodyPost_ret (v:=.int .i64 2) (results_tmp (t:=4) rfl _ _ _) rfl ⟨rfl,HB1.out.alloc HB1.out.size _⟩
end Go.Proofs.Ythpahlkhiknofaa.H
namespace Go.Proofs.Ythpahlkhiknofaa.G
open Go Go.RowKit Go.Proofs.YthpahlkhiknofaaW.PrintWords
def card_Realize.f (a0:ByteArray) (l1:List Int):Option (Int):=(card_newTotal.f a0).bind fun t=>if okT a0 t.1 t.2.1 t.2.2 ∧ H.fitL l1 then some (H.rzV a0 l1 t.1.toNat t.2.2) else none
theorem card_Realize.calls (a0:ByteArray) (A1:Option Addr) (c1:Nat) (l1:List Int) (r:Int) (w:World) (hr1:Kd.C (Kd.int .i64) w A1 l1.length l1) (hc1:l1.length ≤ c1) (h:card_Realize.f a0 l1 = some r) :
  Calls Try.prog 19 #[.string a0,.slice A1 l1.length c1] w fun e w'=>e = .returned (.int .i64 r) ∧ Below w.heap.size w w':=by
 unfold card_Realize.f at h
 obtain ⟨t,ht,h⟩:=Option.bind_eq_some_iff.1 h
 obtain ⟨n,s,ok⟩:=t
 by_cases hf:okT a0 n s ok ∧ H.fitL l1
 case neg =>
  rw [if_neg hf] at h
  cases h
 rw [if_pos hf] at h
 obtain rfl:=Option.some.inj h
 obtain ⟨⟨rfl,h1,h2⟩,h4⟩:=hf
 cases ok with
 | false =>
  have e:H.rzV a0 l1 n.toNat false = 2:=by unfold H.rzV;first | rfl | (rw [if_neg (by decide)]) | (rw [if_neg (fun h=>by cases h.1)])
  rw [show (H.rzV a0 l1 (n,a0,false).1.toNat (n,a0,false).2.2) = 2 from e]
  exact H.realize_no a0 A1 l1.length c1 w n ht
 | true =>
  obtain ⟨h2,h3⟩:=h2 rfl
  obtain ⟨m,rfl⟩:∃ m:Nat,n = (m:Int):=⟨n.toNat,by omega⟩
  have:=H.realize19 a0 A1 c1 l1 w hr1 hc1 h4 h1 m true ht (by omega)
  rwa [show m = ((m:Int)).toNat from rfl] at this
end Go.Proofs.Ythpahlkhiknofaa.G
namespace Go.Proofs.Ythpahlkhiknofaa.H
open Go Go.RowKit Go.Shelf Go.Proofs.Ythpahlkhiknofaa.G Go.Proofs.Ythpahlkhiknofaa.P Go.Proofs.YthpahlkhiknofaaW.PrintWords Go.Proofs.YthpahlkhiknofaaW.PrintLast Go.Proofs.YthpahlkhiknofaaW.PrintMore
def chL (xs:List Int) (p sg:Int):Nat → List Int
 | 0=>xs
 | i + 1=>(chL xs p sg i).set i (wrap64 (rd (chL xs p sg i) (i:Int) + wrap64 (sg * Go.bits .and .i64 (p / 2 ^ i) 1)))
def chV (xs:List Int) (p sg:Int) (n:Nat):List Int:=(chL xs p sg n).set n (wrap64 (rd (chL xs p sg n) (n:Int) - sg))
theorem chL_len (xs:List Int) (p sg:Int):∀ n,(chL xs p sg n).length = xs.length
 | 0=>rfl
 | n + 1=>by rw [chL,List.length_set,chL_len xs p sg n]
def rowO (l:List Int):Obj:=.cells (l.map (Value.int .i64)).toArray 88 (0,0)
theorem chV_len (xs:List Int) (p sg:Int) (n:Nat):(chV xs p sg n).length = xs.length:=by rw [chV,List.length_set,chL_len]
theorem row_set (l:List Int) (i:Nat) (v:Int):some (Obj.cells (((l.map (Value.int .i64)).toArray).setIfInBounds i (.int .i64 v)) 88 (0,0)) = some (rowO (l.set i v)):=by
 unfold rowO
 rw [List.map_set,List.setIfInBounds_toArray]
theorem six (l:List Int) (h:l.length = 6):∃ a b c d e f,l = [a,b,c,d,e,f]:=by
 rcases l with _ | ⟨a,_ | ⟨b,_ | ⟨c,_ | ⟨d,_ | ⟨e,_ | ⟨f,_ | ⟨g,t⟩⟩⟩⟩⟩⟩⟩ <;> first | (exfalso;simp only [List.length_cons,List.length_nil] at h;omega) | exact ⟨_,_,_,_,_,_,rfl⟩
theorem cells6 {w:World} {g:Nat} {a b c d e f:Int} (h:w.heap[g]? = some (rowO [a,b,c,d,e,f])):w.cell? ⟨g,0,none⟩ = some (.int .i64 a) ∧ w.cell? ⟨g,1,none⟩ = some (.int .i64 b) ∧ w.cell? ⟨g,2,none⟩ = some (.int .i64 c) ∧ w.cell? ⟨g,3,none⟩ = some (.int .i64 d) ∧ w.cell? ⟨g,4,none⟩ = some (.int .i64 e) ∧ w.cell? ⟨g,5,none⟩ = some (.int .i64 f):=by
 refine ⟨?_,?_,?_,?_,?_,?_⟩ <;> exact (cell_of_row w g _ _ _ _ h).trans rfl
theorem frozen6 {w:World} {g:Nat} {l:List Int} (h:w.heap[g]? = some (rowO l)):w.frozen? ⟨g,0,none⟩ = false ∧ w.frozen? ⟨g,1,none⟩ = false ∧ w.frozen? ⟨g,2,none⟩ = false ∧ w.frozen? ⟨g,3,none⟩ = false ∧ w.frozen? ⟨g,4,none⟩ = false ∧ w.frozen? ⟨g,5,none⟩ = false :=
 ⟨blk_frozen h _,blk_frozen h _,blk_frozen h _,blk_frozen h _,blk_frozen h _,blk_frozen h _⟩
theorem row_at {l:List Int} {i:Nat} (hi:i < l.length):((l.map (Value.int .i64)).toArray)[i]? = some (.int .i64 (rd l (i:Int))):=by
 rw [List.getElem?_toArray,List.getElem?_map,List.getElem?_eq_getElem hi,rd_get hi];rfl
set_option maxHeartbeats 4000000 in
set_option maxRecDepth 100000 in
theorem changed63 (xs:List Int) (hx:xs.length = 6) (n:Nat) (hn:n ≤ 5) (p sg:Int) (w:World) :
  Calls Try.prog 63 #[stV xs,.int .i64 (n:Int),.int .i64 p,.int .i64 sg] w fun e w'=>e = .returned (stV (chV xs p sg n)) ∧ Below w.heap.size w w':=by
 have hs:stV xs = .agg (xs.map (Value.int .i64)).toArray:=rfl
 go_enter Try.func63,Try.ntmps63
 unfold stV
 go_wp2_with fail
 go_loopg [11] n (fun k s11 W=>∃ i:Nat,s11 = .int .i64 (i:Int) ∧ i ≤ n ∧ n ≤ k + i ∧ Below w.heap.size w W ∧ W.heap[w.heap.size]? = some (rowO (chL xs p sg i)) ∧ W.heap[w.heap.size + 1]? = some (rowO [0,0,0,0,0,0]))
 case atStart =>
  have h1:=World.alloc_heap_new w (rowO xs)
  have h2:=World.alloc_heap_new (w.alloc (rowO xs)) (rowO [0,0,0,0,0,0])
  rw [World.size_alloc] at h2
  exact ⟨0,rfl,by omega,by omega,(((Below.refl _ _).alloc (Nat.le_refl _) _).alloc (by simp) _),(((Below.refl _ _).alloc (Nat.le_refl _) _).block w.heap.size (by rw [World.size_alloc];exact Nat.lt_succ_self _)).trans h1,h2⟩
 case round =>
  obtain ⟨i,rfl,hi,hk,hB,h4,h8⟩:=hrel
  have HB:=Lib.hid hB
  have H4:=Lib.hid h4
  have H8:=Lib.hid h8
  clear hB h4 h8
  by_cases hil:i < n
  ·have hcell:=(cell_of_row _ w.heap.size i _ _ _ H4.out).trans (row_at (l:=chL xs p sg i) (i:=i) (by rw [chL_len];omega))
   obtain ⟨x,hx0⟩:∃ x,rd (chL xs p sg i) (i:Int) = x:=⟨_,rfl⟩
   rw [hx0] at hcell
   have HX:=Lib.hid hx0
   clear hx0
   have hfz:=blk_frozen H4.out i
   have hsh:0 ≤ (i:Int):=by omega
   have hw1:=wrap_succ (i:=i) (by omega)
   have hne:w.heap.size + 1 ≠ w.heap.size:=by omega
   go_wp2_with fail
   go_region
   go_wp2_with fail
   go_roundg (n - (i + 1))
   case measure=>omega
   case rel =>
    refine ⟨i + 1,by first | rfl | simp [hw1],by omega,by omega,((below_drew1 HB.out).setCell (Nat.le_refl _) _),?_,?_⟩
    ·refine (blk_set H4.out i _).trans ?_
     rw [row_set,← HX.out];rfl
    exact (Below.heap_setCell _ _ _ _ hne).trans H8.out
  have:i = n:=by omega
  subst this
  have hcell:=(cell_of_row _ w.heap.size i _ _ _ H4.out).trans (row_at (l:=chL xs p sg i) (i:=i) (by rw [chL_len];omega))
  obtain ⟨x,hx0⟩:∃ x,rd (chL xs p sg i) (i:Int) = x:=⟨_,rfl⟩
  rw [hx0] at hcell
  have HX:=Lib.hid hx0
  clear hx0
  have hfz:=blk_frozen H4.out i
  have h4':=(blk_set H4.out i (.int .i64 (wrap64 (x - sg)))).trans (show _ = some (rowO (chV xs p sg i)) from by
   rw [row_set,← HX.out];rfl)
  have hne:w.heap.size + 1 ≠ w.heap.size:=by omega
  have h8':=(Below.heap_setCell _ ⟨w.heap.size,i,none⟩ (.int .i64 (wrap64 (x - sg))) _ hne).trans H8.out
  obtain ⟨y0,y1,y2,y3,y4,y5,hy⟩:=six (chV xs p sg i) (by rw [chV_len,hx])
  rw [hy] at h4'
  have HY:=Lib.hid hy
  clear hy
  obtain ⟨q0,q1,q2,q3,q4,q5⟩:=cells6 h4'
  obtain ⟨r0,r1,r2,r3,r4,r5⟩:=cells6 h8'
  obtain ⟨f0,f1,f2,f3,f4,f5⟩:=frozen6 h8'
  have hb1:Below w.heap.size w (wr.setCell ⟨w.heap.size,i,none⟩ (.int .i64 (wrap64 (x - sg)))):=HB.out.setCell (Nat.le_refl _) _
  have HB1:=Lib.hid hb1
  have hz:=blk_lt H8.out
  have h8f:=h8'
  clear h4' h8' hb1
  have H8F:=Lib.hid h8f
  clear h8f
  go_wp2_with fail
  have e6:=blk_set (blk_set (blk_set (blk_set (blk_set (blk_set H8F.out 0 (.int .i64 y0)) 1 (.int .i64 y1)) 2 (.int .i64 y2)) 3 (.int .i64 y3)) 4 (.int .i64 y4)) 5 (.int .i64 y5)
  refine bodyPost_ret (v:=.agg #[.int .i64 y0,.int .i64 y1,.int .i64 y2,.int .i64 y3,.int .i64 y4,.int .i64 y5]) (results_cell_row (p:=8) (ty:=88) rfl _ _ (w.heap.size + 1) _ _ _ _ rfl e6 Try.underlying88 rfl (by kernel_rfl)) rfl ⟨?_,?_⟩
  ·rw [HY.out];rfl
  have hg:w.heap.size ≤ w.heap.size + 1:=by omega
  exact (((((HB1.out.setCell hg _).setCell hg _).setCell hg _).setCell hg _).setCell hg _).setCell hg _
end Go.Proofs.Ythpahlkhiknofaa.H
set_option linter.unusedSectionVars false
namespace Go.Proofs.Ythpahlkhiknofaa.P
open Go Go.RowKit Go.Proofs.Ythpahlkhiknofaa.M Go.Proofs.Ythpahlkhiknofaa.G Go.Proofs.Ythpahlkhiknofaa.H
open Go.Proofs.YthpahlkhiknofaaW.PrintWords Go.Proofs.YthpahlkhiknofaaW.PrintMore
def bI (p i:Nat):Int:=if p.testBit i = true then 1 else 0
theorem bI_cases (p i:Nat):bI p i = 0 ∨ bI p i = 1:=by unfold bI;split <;> simp
theorem and_oneN (p:Nat) (h:p < 2 ^ 60):Go.bits .and .i64 (p:Int) 1 = ((p % 2:Nat):Int):=by
  have:=ni_and p 1 (by omega) (by decide)
  rw [Nat.and_one_is_mod] at this
  exact this
theorem bit_div {p i:Nat} (hp:p < 2 ^ 60):Go.bits .and .i64 ((p:Int) / 2 ^ i) 1 = bI p i:=by
  have hw:p / 2 ^ i < 2 ^ 60:=Nat.lt_of_le_of_lt (Nat.div_le_self _ _) hp
  rw [div_two_pow,and_oneN _ hw]
  unfold bI
  rw [Nat.testBit_eq_decide_div_mod_eq]
  rcases Nat.mod_two_eq_zero_or_one (p / 2 ^ i) with h | h <;> simp [h]
theorem digitI {p i:Nat} (h:i ≤ 64):Int.tmod (shr .i64 (p:Int) (i:Int)) 2 = bI p i:=digit h
/-- The sum of the weights of a point. -/
def wsum (xs:List Int) (p:Nat):Nat → Int
  | 0=>0
  | i + 1=>wsum xs p i + rd xs (i:Int) * bI p i
def Sm (B:Int) (xs:List Int):Prop:=∀ i:Nat,i < 6 → -B ≤ rd xs (i:Int) ∧ rd xs (i:Int) ≤ B
theorem wsum_bd {xs:List Int} {B:Int} (hB:0 ≤ B) (h:Sm B xs) (p:Nat):∀ n,n ≤ 5 → -(n * B) ≤ wsum xs p n ∧ wsum xs p n ≤ n * B
  | 0,_=>by simp [wsum]
  | n + 1,hn=>by
    have ih:=wsum_bd hB h p n (by omega)
    have hx:=h n (by omega)
    rw [wsum]
    have e:((n + 1:Nat):Int) * B = n * B + B:=by rw [Int.natCast_add,Int.add_mul];simp
    rw [e]
    rcases bI_cases p n with hb | hb <;> rw [hb] <;> constructor <;> omega
theorem val_eq {xs:List Int} {B:Int} (hB:0 ≤ B) (hB2:B ≤ 1000000000000) (h:Sm B xs) {p:Nat} (hp:p < 2 ^ 60) {a:Int} (ha:-B ≤ a ∧ a ≤ B):∀ n,n ≤ 5 → valS xs (p:Int) n a = a + wsum xs p n
  | 0,_=>by simp [valS,wsum]
  | n + 1,hn=>by
    have ih:=val_eq hB hB2 h hp ha n (by omega)
    have hb:=wsum_bd hB h p n (by omega)
    have hx:=h n (by omega)
    have hm:(n:Int) * B ≤ 5 * B:=Int.mul_le_mul_of_nonneg_right (by omega) hB
    rw [valS,wsum,bit_div hp,ih]
    by_cases hbit:p.testBit n = true
    · have e1:bI p n = 1:=by unfold bI;rw [if_pos hbit]
      rw [e1,if_pos (by decide),Int.mul_one,wrap_id (by omega) (by omega)]
      omega
    · have e1:bI p n = 0:=by unfold bI;rw [if_neg hbit]
      rw [e1,if_neg (by decide),Int.mul_zero,Int.add_zero]
/-- Whether weights put a point on its side. -/
def okR (c:ByteArray) (l:List Int) (n p:Nat):Bool:=decide (wsum l p n ≥ rd l (n:Int)) == (bt c (p:Int) == 49)
theorem rzL_eq {c:ByteArray} {l:List Int} {n:Nat} (hn:n ≤ 5) (hc:c.size ≤ 40) {B:Int} (hB:0 ≤ B) (hB2:B ≤ 1000000000) (h:Sm B l):∀ d p,p + d ≤ 40 → rzL l n c d p = if allF (okR c l n) d p = true then 0 else 10
  | 0,_,_=>rfl
  | d + 1,p,hp=>by
    have ih:=rzL_eq hn hc hB hB2 h d (p + 1) (by omega)
    have hx:=h n (by omega)
    have h60:p < 2 ^ 60:=Nat.lt_of_lt_of_le (show p < 64 by omega) (by decide)
    have hv:=val_eq hB (by omega) h h60 (a:=wrap64 (-rd l (n:Int))) (by rw [wrap_id (by omega) (by omega)];omega) n hn
    rw [wrap_id (by omega) (by omega)] at hv
    rw [rzL,wrap_id (by omega) (by omega),hv,allF,ih]
    unfold okR
    have e:decide (-rd l (n:Int) + wsum l p n ≥ 0) = decide (wsum l p n ≥ rd l (n:Int)):=by congr 1;exact propext ⟨fun h=>by omega,fun h=>by omega⟩
    rw [e]
    cases decide (wsum l p n ≥ rd l (n:Int)) <;> cases (bt c (p:Int) == 49) <;> simp
theorem bad_sm {l:List Int} (h:bad60 l = false):Sm 1000000 l:=by
  intro i _
  by_cases hil:i < l.length
  · rw [rd_get hil]
    have:=List.any_eq_false.1 h l[i] (List.getElem_mem hil)
    simp only [Bool.not_eq_true',Bool.not_eq_true,decide_eq_false_iff_not,Decidable.not_not,Bool.not_eq_false',decide_eq_true_eq] at this
    omega
  · have:rd l (i:Int) = 0:=by unfold rd;simp [show ¬ i < l.length from hil]
    rw [this];omega
theorem pad_rd {l:List Int} (hl:l.length ≤ 6) (i:Nat):rd (padL l) (i:Int) = rd l (i:Int):=by
  by_cases h:i < 6
  · rcases (by omega:i = 0 ∨ i = 1 ∨ i = 2 ∨ i = 3 ∨ i = 4 ∨ i = 5) with rfl | rfl | rfl | rfl | rfl | rfl <;> rfl
  · unfold rd padL
    rw [List.getD_eq_getElem?_getD,List.getD_eq_getElem?_getD,List.getElem?_eq_none (by simp;omega),List.getElem?_eq_none (by rw [Int.toNat_natCast];omega)]
theorem wsum_congr {a b:List Int} (h:∀ i:Nat,rd a (i:Int) = rd b (i:Int)) (p:Nat):∀ n,wsum a p n = wsum b p n
  | 0=>rfl
  | n + 1=>by rw [wsum,wsum,wsum_congr h p n,h n]
def sgn (s:Int):Prop:=s = 1 ∨ s = -1
theorem sg_b {sg:Int} (hs:sgn sg) (p v:Nat):-1 ≤ sg * bI p v ∧ sg * bI p v ≤ 1:=by
  rcases hs with rfl | rfl <;> rcases bI_cases p v with e | e <;> rw [e] <;> decide
theorem chL_tab {f:Nat → Int} (hB:∀ v,-1000000000 ≤ f v ∧ f v ≤ 1000000000) {sg:Int} (hs:sgn sg) {p:Nat} (hp:p < 2 ^ 60):∀ i,i ≤ 6 → chL (tabI 6 f) (p:Int) sg i = tabI 6 (fun v=>if v < i then f v + sg * bI p v else f v)
  | 0,_=>by rw [chL];exact tabI_congr fun v _=>by simp
  | i + 1,hi=>by
    have hb:=hB i
    have hg:=sg_b hs p i
    rw [chL,chL_tab hB hs hp i (by omega),bit_div hp,tabI_rd (by omega),if_neg (Nat.lt_irrefl i),wrap_id (x:=sg * bI p i) (by omega) (by omega),wrap_id (by omega) (by omega),tabI_set]
    exact tabI_congr fun v _=>by
      by_cases e:v = i
      · subst e;rw [if_pos rfl,if_pos (by omega)]
      · rw [if_neg e]
        by_cases h:v < i
        · rw [if_pos h,if_pos (by omega)]
        · rw [if_neg h,if_neg (by omega)]
def updF (n p:Nat) (sg:Int) (f:Nat → Int):Nat → Int:=fun v=>if v = n then f v - sg else if v < n then f v + sg * bI p v else f v
theorem chV_tab {f:Nat → Int} (hB:∀ v,-1000000000 ≤ f v ∧ f v ≤ 1000000000) {sg:Int} (hs:sgn sg) {p:Nat} (hp:p < 2 ^ 60) {n:Nat} (hn:n ≤ 5):chV (tabI 6 f) (p:Int) sg n = tabI 6 (updF n p sg f):=by
  have hb:=hB n
  have h1:-1 ≤ sg ∧ sg ≤ 1:=by rcases hs with rfl | rfl <;> decide
  rw [chV,chL_tab hB hs hp n (by omega),tabI_rd (by omega),if_neg (Nat.lt_irrefl n),wrap_id (by omega) (by omega),tabI_set]
  exact tabI_congr fun v _=>by
    unfold updF
    by_cases e:v = n
    · subst e;rw [if_pos rfl]
    · rw [if_neg e,if_neg e]
def lensB (ls:List (List Int)):Prop:=ls.length = 2 ∧ (rd_L3 ls 0).length = (rd_L3 ls 1).length ∧ 1 ≤ (rd_L3 ls 0).length ∧ (rd_L3 ls 0).length ≤ 1000
instance (ls:List (List Int)):Decidable (lensB ls):=by unfold lensB;exact inferInstance
end Go.Proofs.Ythpahlkhiknofaa.P
namespace Go.Proofs.Ythpahlkhiknofaa.H
open Go Go.RowKit Go.Shelf Go.Proofs.Ythpahlkhiknofaa.G Go.Proofs.Ythpahlkhiknofaa.P Go.Proofs.YthpahlkhiknofaaW.PrintWords Go.Proofs.YthpahlkhiknofaaW.PrintLast Go.Proofs.YthpahlkhiknofaaW.PrintMore
def vlS (xs:List Int) (n p:Nat):Int:=valS xs (p:Int) n (wrap64 (-rd xs (n:Int)))
def lowB (xs:List Int) (n:Nat) (s:ByteArray) (p:Nat):Bool:=(bt s (p:Int) == 49) && decide (vlS xs n p ≤ 0)
def highB (xs:List Int) (n:Nat) (s:ByteArray) (p:Nat):Bool:=(bt s (p:Int) == 48) && decide (vlS xs n p ≥ 0)
def wrL (xs:List Int) (n:Nat) (s:ByteArray):Nat → Nat → Int × Int
 | 0,_=>(-1,0)
 | d + 1,p=>if lowB xs n s p = true then ((p:Int),1) else if highB xs n s p = true then ((p:Int),-1) else wrL xs n s d (p + 1)
set_option maxHeartbeats 4000000 in
set_option maxRecDepth 100000 in
theorem wrong110 (xs:List Int) (hx:xs.length = 6) (n:Nat) (hn:n ≤ 5) (s:ByteArray) (hsz:s.size ≤ 1000) (w:World) :
  Calls Try.prog 110 #[.agg #[.int .i64 (n:Int),.string s],stV xs] w fun e w'=>e = .returned (.tuple #[.int .i64 (wrL xs n s s.size 0).1,.int .i64 (wrL xs n s s.size 0).2]) ∧ Below w.heap.size w w':=by
 obtain ⟨x0,x1,x2,x3,x4,x5,rfl⟩:=six xs hx
 go_enter Try.func110,Try.ntmps110
 unfold stV
 go_wp2_with fail
 go_loopg [11] s.size (fun k s11 W=>∃ p:Nat,s11 = .int .i64 (p:Int) ∧ p ≤ s.size ∧ s.size ≤ k + p ∧ Below w.heap.size w W ∧ W.heap[w.heap.size]? = some (.cells #[.int .i64 (n:Int),.string s] 81 (0,0)) ∧ W.heap[w.heap.size + 1]? = some (rowO [x0,x1,x2,x3,x4,x5]) ∧ wrL [x0,x1,x2,x3,x4,x5] n s s.size 0 = wrL [x0,x1,x2,x3,x4,x5] n s (s.size - p) p)
 case atStart =>
  have h1:=World.alloc_heap_new w (.cells #[.int .i64 (n:Int),.string s] 81 (0,0))
  have h2:=World.alloc_heap_new (w.alloc (.cells #[.int .i64 (n:Int),.string s] 81 (0,0))) (rowO [x0,x1,x2,x3,x4,x5])
  rw [World.size_alloc] at h2
  exact ⟨0,rfl,by omega,by omega,(((Below.refl _ _).alloc (Nat.le_refl _) _).alloc (by simp) _),(((Below.refl _ _).alloc (Nat.le_refl _) _).block w.heap.size (by rw [World.size_alloc];exact Nat.lt_succ_self _)).trans h1,h2,rfl⟩
 case round =>
  obtain ⟨p,rfl,hp,hk,hB,h2,h3,hv⟩:=hrel
  have HB:=Lib.hid hB
  have H2:=Lib.hid h2
  have H3:=Lib.hid h3
  have HV:=Lib.hid hv
  clear hB h2 h3 hv
  by_cases hps:p < s.size
  case neg =>
   have:p = s.size:=by omega
   subst this
   go_wp2_with fail
   refine bodyPost_ret (v:=.tuple #[.int .i64 (-1),.int .i64 0]) (results_tmp2 (t:=4) (u:=5) rfl _ _ _) rfl ⟨?_,HB.out⟩
   rw [HV.out,Nat.sub_self];rfl
  have hca:=cell_of_row _ w.heap.size 0 _ _ _ H2.out
  have hcb:=cell_of_row _ w.heap.size 1 _ _ _ H2.out
  obtain ⟨q0,q1,q2,q3,q4,q5⟩:=cells6 H3.out
  have hlt2:=blk_lt H2.out
  go_wp2_with fail
  refine (value62 x0 x1 x2 x3 x4 x5 n hn (p:Int) _).mono ?_
  rintro e w5 ⟨rfl,hb5⟩
  have h25:=(hb5.block _ hlt2).trans H2.out
  have h35:=(hb5.block _ (blk_lt H3.out)).trans H3.out
  have HB5:=Lib.hid (HB.out.trans (hb5.mono HB.out.size))
  have H25:=Lib.hid h25
  have H35:=Lib.hid h35
  have hcb5:=cell_of_row _ w.heap.size 1 _ _ _ h25
  clear hb5 h25 h35 hca hcb q0 q1 q2 q3 q4 q5
  obtain ⟨v,hve⟩:∃ v,vlS [x0,x1,x2,x3,x4,x5] n p = v:=⟨_,rfl⟩
  rw [show valS [x0,x1,x2,x3,x4,x5] (p:Int) n (wrap64 (-rd [x0,x1,x2,x3,x4,x5] (n:Int))) = v from hve]
  have HVE:=Lib.hid hve
  clear hve
  have hbt:=bt_at s (p:Int)
  have hw1:=wrap_succ (i:=p) (by omega)
  have hstep:wrL [x0,x1,x2,x3,x4,x5] n s (s.size - p) p = if lowB [x0,x1,x2,x3,x4,x5] n s p = true then ((p:Int),1) else if highB [x0,x1,x2,x3,x4,x5] n s p = true then ((p:Int),-1) else wrL [x0,x1,x2,x3,x4,x5] n s (s.size - (p + 1)) (p + 1):=by
   rw [show s.size - p = (s.size - (p + 1)) + 1 by omega];rfl
  unfold lowB highB at hstep
  rw [HVE.out] at hstep
  obtain ⟨a,ha⟩:∃ a,(bt s (p:Int) == 49) = a:=⟨_,rfl⟩
  obtain ⟨b,hb⟩:∃ b,(bt s (p:Int) == 48) = b:=⟨_,rfl⟩
  obtain ⟨c,hc⟩:∃ c,decide (v ≤ 0) = c:=⟨_,rfl⟩
  obtain ⟨d,hd⟩:∃ d,decide (v ≥ 0) = d:=⟨_,rfl⟩
  rw [ha,hb,hc,hd] at hstep
  have HST:=Lib.hid hstep
  rw [bt_get hps] at ha hb
  clear hstep
  cases a <;> cases b <;> cases c <;> cases d
  all_goals
   go_wp2_with fail
   first
   | (refine bodyPost_ret (v:=.tuple #[.int .i64 (p:Int),.int .i64 1]) (results_tmp2 (t:=4) (u:=5) rfl _ _ _) rfl ⟨?_,HB5.out⟩;(rw [HV.out,HST.out]);rfl)
   | (refine bodyPost_ret (v:=.tuple #[.int .i64 (p:Int),.int .i64 (-1)]) (results_tmp2 (t:=4) (u:=5) rfl _ _ _) rfl ⟨?_,HB5.out⟩;(rw [HV.out,HST.out]);rfl)
   | (go_roundg (s.size - (p + 1));(case measure=>(clear hw1;omega));(case rel=>exact ⟨p + 1,by simp [hw1],by clear hw1;omega,by clear hw1;omega,HB5.out,H25.out,H35.out,by rw [HV.out,HST.out];rfl⟩))
end Go.Proofs.Ythpahlkhiknofaa.H
namespace Go.Proofs.Ythpahlkhiknofaa.H
open Go Go.RowKit Go.Shelf Go.Maps Go.Proofs.Ythpahlkhiknofaa.G Go.Proofs.Ythpahlkhiknofaa.P Go.Proofs.YthpahlkhiknofaaW.PrintWords
theorem laidOutP:laidOutB Try.prog = true:=by kernel_rfl
theorem law88:Keyed Try.prog 88:=Keyed.of_law (deep_law_laid laidOutP (m:=Try.prog.types.size) (by decide +kernel) (by decide +kernel) (by kernel_rfl) (by rw [Try.underlying88]))
theorem key_inj {P:Program} {k:TypeId} (K:Keyed P k) {a b:Value} {l:Lit} (h1:keyOf P k a = some l) (h2:keyOf P k b = some l):a = b:=K.inj h1 h2
theorem key_key {P:Program} {k:TypeId} (K:Keyed P k) {a:Value} {l:Lit} (h1:keyOf P k a = some l):WideAt.IsKeyLit l:=K.key h1
def wf6 (xs:List Int):Prop:=∀ x ∈ xs,(Lit.int .i64 x).wf = true
theorem key88 {xs:List Int} (hx:xs.length = 6) (hw:wf6 xs):∃ l,keyOf Try.prog 88 (stV xs) = some l:=by
  obtain ⟨a,b,c,d,e,f,rfl⟩:=six xs hx
  have ha:=hw a (by simp)
  have hb:=hw b (by simp)
  have hc:=hw c (by simp)
  have hd:=hw d (by simp)
  have he:=hw e (by simp)
  have hf:=hw f (by simp)
  have hk:Try.prog.keyType 88 = true:=by kernel_rfl
  have hfm:(stV [a,b,c,d,e,f]).formed Try.prog 88 = true:=by kernel_rfl
  have hn:Try.prog.types.size + 1 = 177 + 1:=by decide +kernel
  have h6:Try.prog.cellsOf 88 = 6:=by kernel_rfl
  have h1:Try.prog.cellsOf 3 = 1:=by kernel_rfl
  have one:∀ y:Int,(Lit.int .i64 y).wf = true → Try.prog.keyLits 177 3 [.int .i64 y] = some [.int .i64 y]:=fun y hy=>by
    show Try.prog.keyLits (176 + 1) 3 _ = _
    unfold Program.keyLits
    rw [Try.underlying3]
    simp [hy]
  have hl:Try.prog.keyLits (Try.prog.types.size + 1) 88 (stV [a,b,c,d,e,f]).cells.toList = some [.int .i64 a,.int .i64 b,.int .i64 c,.int .i64 d,.int .i64 e,.int .i64 f]:=by
    rw [hn]
    unfold Program.keyLits
    rw [Try.underlying88]
    simp only [h6,h1]
    show (if _ = 6 then _ else _) = _
    rw [if_pos (by rfl)]
    simp [stV,Value.cells,List.range,List.range.loop,one,ha,hb,hc,hd,he,hf]
  refine ⟨.string (keyBytes [.int .i64 a,.int .i64 b,.int .i64 c,.int .i64 d,.int .i64 e,.int .i64 f]),?_⟩
  unfold keyOf
  rw [Try.underlying88]
  simp only [hk,hfm,Bool.and_self,if_true,hl,Option.map_some]
noncomputable def kS (xs:List Int):Lit:=(keyOf Try.prog 88 (stV xs)).getD (.bool true)
theorem kS_eq {xs:List Int} (hx:xs.length = 6) (hw:wf6 xs):keyOf Try.prog 88 (stV xs) = some (kS xs):=by
  obtain ⟨l,h⟩:=key88 hx hw
  unfold kS
  rw [h];rfl
theorem stV_inj {xs ys:List Int} (h:stV xs = stV ys):xs = ys:=by
  unfold stV at h
  injection h with h
  have h2:=congrArg Array.toList h
  simp only at h2
  exact (List.map_inj_right (fun a b e=>by injection e)).1 h2
theorem kS_inj {xs ys:List Int} (hx:xs.length = 6) (hw:wf6 xs) (hy:ys.length = 6) (hv:wf6 ys) (h:kS xs = kS ys):xs = ys:=by
  have e1:=kS_eq hx hw
  have e2:=kS_eq hy hv
  rw [← h] at e2
  obtain ⟨l,hl⟩:∃ l,kS xs = l:=⟨_,rfl⟩
  rw [hl] at e1 e2
  exact stV_inj (key_inj law88 e1 e2)
set_option maxRecDepth 100000 in
theorem kS_lit {xs:List Int} (hx:xs.length = 6) (hw:wf6 xs):WideAt.IsKeyLit (kS xs) :=
  key_key law88 (kS_eq hx hw)
end Go.Proofs.Ythpahlkhiknofaa.H
namespace Go.Proofs.Ythpahlkhiknofaa.H
open Go Go.RowKit Go.Shelf Go.Maps Go.Proofs.Ythpahlkhiknofaa.G Go.Proofs.Ythpahlkhiknofaa.P Go.Proofs.YthpahlkhiknofaaW.PrintWords Go.Proofs.YthpahlkhiknofaaW.PrintLast Go.Proofs.YthpahlkhiknofaaW.PrintMore
structure Wg (n:Nat) (s:ByteArray) (st:Nat → List Int) (pt sg:Nat → Int) (K:Nat):Prop where
 len:∀ i,(st i).length = 6
 wf:∀ i,i ≤ K → wf6 (st i)
 z:st 0 = [0,0,0,0,0,0]
 step:∀ i,i < K → wrL (st i) n s s.size 0 = (pt i,sg i) ∧ 0 ≤ pt i ∧ st (i + 1) = chV (st i) (pt i) (sg i) n
 inj:∀ i j,i < j → j < K → st i ≠ st j
def seqI (f:Nat → Int) (i:Nat):List Int:=(List.range i).map f
theorem seqI_succ (f:Nat → Int) (i:Nat):seqI f (i + 1) = seqI f i ++ [f i]:=by unfold seqI;rw [List.range_succ,List.map_append];rfl
theorem seqI_len (f:Nat → Int) (i:Nat):(seqI f i).length = i:=by simp [seqI]
structure MapI (st:Nat → List Int) (D:DataW Unit) (i:Nat):Prop where
 isMap:IsMap D
 at_:∀ j,j < i → Maps.has D (kS (st j)) = true ∧ D.atKey (kS (st j)) (.lit (.int .i64 0)) = .lit (.int .i64 (j:Int))
 no:∀ xs,xs.length = 6 → wf6 xs → (∀ j,j < i → st j ≠ xs) → Maps.has D (kS xs) = false
theorem mapI_zero (st:Nat → List Int):MapI st (.map []) 0:=⟨isMap_empty,fun j hj=>by omega,fun xs _ _ _=>rfl⟩
set_option maxRecDepth 100000 in
theorem mapI_succ {st:Nat → List Int} {D:DataW Unit} {i:Nat} (h:MapI st D i) (hlen:∀ j,(st j).length = 6) (hwf:∀ j,j ≤ i → wf6 (st j)) (hne:∀ j,j < i → st j ≠ st i):MapI st (D.put (kS (st i)) (.lit (.int .i64 (i:Int)))) (i + 1):=by
 have hk:=kS_lit (hlen i) (hwf i (Nat.le_refl i))
 refine ⟨h.isMap.put _ _,fun j hj=>?_,fun xs hx hw hn=>?_⟩
 ·by_cases e:j = i
  ·subst e
   exact ⟨has_put_same h.isMap hk _,atKey_put_same h.isMap hk _ _⟩
  have hji:j < i:=by omega
  have hne2:kS (st j) ≠ kS (st i):=fun h2=>hne j hji (kS_inj (hlen j) (hwf j (by omega)) (hlen i) (hwf i (Nat.le_refl i)) h2)
  obtain ⟨a,b⟩:=h.at_ j hji
  exact ⟨(has_put_other hne2 _).trans a,(atKey_put_other hne2 _ _).trans b⟩
 have hne2:kS xs ≠ kS (st i):=fun h2=>hn i (Nat.lt_succ_self i) (kS_inj hx hw (hlen i) (hwf i (Nat.le_refl i)) h2).symm
 exact (has_put_other hne2 _).trans (h.no xs hx hw fun j hj=>hn j (by omega))
theorem ownsMap_block {w w':World} {P:Program} {k:TypeId} {R:Value → Option (DataW Unit × List MemPlace)} {b n:Nat} {D:DataW Unit} (h:w.ownsMap P k R b n D) (hb:w'.heap[b]? = w.heap[b]?):w'.ownsMap P k R b n D:=by
 obtain ⟨es,clock,h1,r⟩:=h
 exact ⟨es,clock,hb.trans h1,r⟩
theorem zero3 (w:World):(zeroValue 3).run Try.prog w = .ok (.int .i64 0) w:=by kernel_rfl
theorem results_cell_tmp {P:Program} {fn:Func} {p u:Tmp} {ty:TypeId} (h:fn.results = #[.cell p ty,.tmp u]) (tmps:Array Value) (w:World) (g:Nat) (t:TypeId) (cs:Array Value) (fr:Nat × Nat) (d:TypeDesc)
  (hp:tmps.getD p undef = .pointer (some ⟨g,0,none⟩)) (hg:w.heap[g]? = some (.cells cs t fr))
  (hu:P.underlying ty = some d) (hd:(match d with | .struct _ | .array _ _=>true | _=>false) = true) (hi:(P.info? ty).map (·.size) = some cs.size) :
  (results fn tmps).run P w = .ok (.tuple #[.agg cs,tmps.getD u undef]) w:=by
 have hp':tmps[p]?.getD undef = .pointer (some ⟨g,0,none⟩):=by simpa using hp
 simp [results,h,hp',asAddr,run_loadVar_row w g t ty cs fr d hg hu hd hi]
abbrev RI (w:World) (base:Nat) (v:Value) (l:List Int):Prop:=Kd.R (Kd.int .i64) 3 w base (fun _=>True) v l
theorem some_ne {a b:Nat} (h:a ≠ b):some a ≠ some b:=fun e=>h (Option.some.inj e)
theorem map_ne {w:World} {b i base:Nat} {D:DataW Unit} {v:Value} {l:List Int} (h:w.ownsMap Try.prog 88 (plainElem Try.prog 3) b i D) (hr:RI w base v l):some b ≠ v.ownBlock:=by
 intro e
 obtain ⟨es,clock,h1,_⟩:=h
 obtain ⟨_,inner,ho,_⟩:=hr
 obtain ⟨cells,h2⟩:=own_typed ho b e.symm
 rw [h1] at h2
 cases h2
theorem RI_own {w:World} {base:Nat} {v:Value} {l:List Int} (h:RI w base v l) {k:Nat} (hk:v.ownBlock = some k):base ≤ k ∧ k < w.heap.size:=by
 obtain ⟨_,inner,ho,_⟩:=h
 exact ⟨own_base ho k hk,own_lt ho k hk⟩
theorem RI_step {w w':World} {base:Nat} {v:Value} {l:List Int} (h:RI w base v l) (hm:∀ k,base ≤ k → k < w.heap.size → w'.heap[k]? = w.heap[k]?):RI w' base v l :=
 Kd.R_mono (Kd.R_step (Kd.R_bound h) (fun k ho hlt=>hm k ho.2.1 hlt)) (fun _ _=>trivial)
theorem RI_set {w:World} {base g o:Nat} {v:Value} {l:List Int} (h:RI w base v l) (hg:g < base) (u:Value):RI (w.setCell ⟨g,o,none⟩ u) base v l :=
 RI_step h fun k hk _=>Below.heap_setCell _ _ _ _ (by show k ≠ g;omega)
theorem size_set (w:World) (a:Addr) (u:Value):(w.setCell a u).heap.size = w.heap.size:=by simp [World.setCell]
theorem ap_sym {a b:Value} (h:a.ownBlock = none ∨ a.ownBlock ≠ b.ownBlock):∀ k,a.ownBlock = some k → some k ≠ b.ownBlock:=fun k hk=>by
 rcases h with h | h
 ·rw [h] at hk;cases hk
 rw [← hk];exact h
def WRel (n:Nat) (s:ByteArray) (st:Nat → List Int) (pt sg:Nat → Int) (K:Nat) (w:World) (i:Nat) (v6 v7:Value) (W:World):Prop:=∃ (D:DataW Unit),i ≤ K ∧ Below w.heap.size w W ∧ W.heap[w.heap.size]? = some (.cells #[.int .i64 (n:Int),.string s] 81 (0,0)) ∧ W.heap[w.heap.size + 1]? = some (rowO [0,0,0,0,0,0]) ∧ W.heap[w.heap.size + 2]? = some (rowO (st i)) ∧ W.ownsMap Try.prog 88 (plainElem Try.prog 3) (w.heap.size + 3) i D ∧ MapI st D i ∧ RI W (w.heap.size + 4) v6 (seqI pt i) ∧ RI W (w.heap.size + 4) v7 (seqI sg i) ∧ (v6.ownBlock = none ∨ v6.ownBlock ≠ v7.ownBlock) ∧ w.heap.size + 4 ≤ W.heap.size
theorem wrel_start {n:Nat} {s:ByteArray} {st:Nat → List Int} {pt sg:Nat → Int} {K:Nat} (hz:st 0 = [0,0,0,0,0,0]) (w:World):∃ i:Nat,K ≤ K + i ∧ WRel n s st pt sg K w i (.slice none 0 0) (.slice none 0 0) ((((w.alloc (.cells #[.int .i64 (n:Int),.string s] 81 (0,0))).alloc (rowO [0,0,0,0,0,0])).alloc (rowO [0,0,0,0,0,0])).alloc (.map #[] 0)):=by
 obtain ⟨w1,hw1⟩:∃ w1,w.alloc (.cells #[.int .i64 (n:Int),.string s] 81 (0,0)) = w1:=⟨_,rfl⟩
 obtain ⟨w2,hw2⟩:∃ w2,w1.alloc (rowO [0,0,0,0,0,0]) = w2:=⟨_,rfl⟩
 obtain ⟨w3,hw3⟩:∃ w3,w2.alloc (rowO [0,0,0,0,0,0]) = w3:=⟨_,rfl⟩
 have s1:w1.heap.size = w.heap.size + 1:=by rw [← hw1,World.size_alloc]
 have s2:w2.heap.size = w.heap.size + 2:=by rw [← hw2,World.size_alloc,s1]
 have s3:w3.heap.size = w.heap.size + 3:=by rw [← hw3,World.size_alloc,s2]
 have a1:=World.alloc_heap_new w (.cells #[.int .i64 (n:Int),.string s] 81 (0,0))
 have a2:=World.alloc_heap_new w1 (rowO [0,0,0,0,0,0])
 have a3:=World.alloc_heap_new w2 (rowO [0,0,0,0,0,0])
 rw [hw1] at a1
 rw [hw2,s1] at a2
 rw [hw3,s2] at a3
 have b1:Below w.heap.size w w1:=by rw [← hw1];exact (Below.refl _ _).alloc (Nat.le_refl _) _
 have b2:Below w1.heap.size w1 w2:=by rw [← hw2];exact (Below.refl _ _).alloc (Nat.le_refl _) _
 have b3:Below w2.heap.size w2 w3:=by rw [← hw3];exact (Below.refl _ _).alloc (Nat.le_refl _) _
 have b4:Below w3.heap.size w3 (w3.alloc (.map #[] 0)):=(Below.refl _ _).alloc (Nat.le_refl _) _
 rw [hw1,hw2,hw3]
 refine ⟨0,by omega,.map [],by omega,b1.trans ((b2.trans ((b3.trans (b4.mono (by omega))).mono (by omega))).mono (by omega)),?_,?_,?_,?_,mapI_zero st,Kd.R_nil _ _ _ _ _,Kd.R_nil _ _ _ _ _,.inl rfl,by rw [World.size_alloc,s3];omega⟩
 ·exact ((b2.trans ((b3.trans (b4.mono (by omega))).mono (by omega))).block _ (by omega)).trans a1
 ·exact ((b3.trans (b4.mono (by omega))).block _ (by omega)).trans a2
 ·rw [hz];exact (b4.block _ (by omega)).trans a3
 rw [← s3];exact World.ownsMap_made _ _ _ _
set_option maxHeartbeats 8000000 in
set_option maxRecDepth 100000 in
theorem weigh79 (n:Nat) (hn:n ≤ 5) (s:ByteArray) (hsz:s.size ≤ 1000) (st:Nat → List Int) (pt sg:Nat → Int) (K:Nat) (hK:K ≤ 1000000000) (hW:Wg n s st pt sg K) (hend:wrL (st K) n s s.size 0 = (-1,0)) (hnew:∀ j,j < K → st j ≠ st K) (w:World) :
  Calls Try.prog 79 #[.agg #[.int .i64 (n:Int),.string s]] w fun e w'=>e = .returned (.tuple #[stV (st K),.slice none 0 0]) ∧ Below w.heap.size w w':=by
 have hmm:=@run_makeMap Try.prog
 have hW0:=hW.z
 have HW:=Lib.hid hW
 have HE:=Lib.hid hend
 have HN:=Lib.hid hnew
 clear hW hend hnew
 go_enter Try.func79,Try.ntmps79
 go_wp2_with fail
 go_loopg [6,7] K (fun k v6 v7 W=>∃ i:Nat,K ≤ k + i ∧ WRel n s st pt sg K w i v6 v7 W)
 case atStart =>
  exact wrel_start hW0 w
 case round =>
  obtain ⟨i,hk,D,hi,hB,h1,h2,h4,hown,hmap,hr6,hr7,hap,hge⟩:=hrel
  obtain ⟨A6,c6,e6⟩:=Kd.R_slice hr6
  rw [seqI_len] at e6
  subst e6
  obtain ⟨x0,x1,x2,x3,x4,x5,hx⟩:=six (st i) (HW.out.len i)
  rw [hx] at h4
  have HB:=Lib.hid hB
  have H1:=Lib.hid h1
  have H2:=Lib.hid h2
  have H4:=Lib.hid h4
  have HM:=Lib.hid hmap
  have HR6:=Lib.hid hr6
  have HR7:=Lib.hid hr7
  have HAP:=Lib.hid hap
  have HX:=Lib.hid hx
  clear hB h1 h2 h4 hmap hr6 hr7 hap hx
  have hkey:keyOf Try.prog 88 (.agg #[.int .i64 x0,.int .i64 x1,.int .i64 x2,.int .i64 x3,.int .i64 x4,.int .i64 x5]) = some (kS (st i)):=by
   have:=kS_eq (HW.out.len i) (HW.out.wf i hi)
   rw [HX.out] at this ⊢
   exact this
  have hhas:Maps.has D (kS (st i)) = false:=HM.out.no _ (HW.out.len i) (HW.out.wf i hi) fun j hj=>by
   by_cases e:i = K
   ·subst e;exact HN.out j hj
   exact HW.out.inj j i hj (by omega)
  obtain ⟨q0,q1,q2,q3,q4,q5⟩:=cells6 H4.out
  by_cases hiK:i < K
  case neg =>
   obtain rfl:i = K:=by omega
   go_wp2_with (first
    | (at_lookup;refine wpList_lookup_own_ok_int _ rfl _ _ 129 rfl 88 3 .i64 law88 Try.underlying129 Try.underlying3 (zero3 _) (w.heap.size + 3) i D rfl hown _ _ rfl hkey ?_;intro c hat hwc;rw [hhas])
    | (at_mapUpdate;refine wpList_mapUpdate_own _ rfl _ _ _ 129 rfl 88 3 law88 Try.underlying129 _ (w.heap.size + 3) i D rfl hown (by unfold maxLen;omega) _ _ _ rfl rfl hkey _ [] (plainElem_int Try.underlying3 (WalkArith.wf_i64 (by omega))) ?_;intro w1 hown1 hgrow1;have g4:=(hgrow1.block (w.heap.size + 2) (by omega) (some_ne (by omega))).trans H4.out;obtain ⟨q0,q1,q2,q3,q4,q5⟩:=cells6 g4;have g1:=(hgrow1.block w.heap.size (by omega) (some_ne (by omega))).trans H1.out;have hca:=cell_of_row _ w.heap.size 0 _ _ _ g1;have hcb:=cell_of_row _ w.heap.size 1 _ _ _ g1))
   have hs1:w.heap.size + 4 ≤ w1.heap.size:=Nat.le_trans hge hgrow1.size
   have g2:=(hgrow1.block (w.heap.size + 1) (by omega) (some_ne (by omega))).trans H2.out
   have hB1:Below w.heap.size w w1:=HB.out.grown hgrow1 HB.out.size (fun k e=>by injection e;omega)
   have HC:=wrong110 [x0,x1,x2,x3,x4,x5] rfl n hn s hsz w1
   have hwr:=HE.out
   rw [HX.out] at hwr
   rw [hwr] at HC
   refine HC.mono ?_
   rintro e w2 ⟨rfl,hb2⟩
   have hlt:decide ((-1:Int) < 0) = true:=by decide
   have g22:=(hb2.block _ (blk_lt g2)).trans g2
   have g42:=(hb2.block _ (blk_lt g4)).trans g4
   obtain ⟨y0,y1,y2,y3,y4,y5⟩:=cells6 g42
   obtain ⟨r0,r1,r2,r3,r4,r5⟩:=cells6 g22
   obtain ⟨f0,f1,f2,f3,f4,f5⟩:=frozen6 g22
   have e6:=blk_set (blk_set (blk_set (blk_set (blk_set (blk_set g22 0 (.int .i64 x0)) 1 (.int .i64 x1)) 2 (.int .i64 x2)) 3 (.int .i64 x3)) 4 (.int .i64 x4)) 5 (.int .i64 x5)
   have HE6:=Lib.hid e6
   have HB2:=Lib.hid (hB1.trans (hb2.mono hB1.size))
   clear HC hwr hb2 g22 g42 hB1 hown1 g1 g2 g4 hca hcb q0 q1 q2 q3 q4 q5 hown hat hhas hkey hgrow1 hs1 e6
   go_wp2_with fail
   refine bodyPost_ret (v:=.tuple #[.agg #[.int .i64 x0,.int .i64 x1,.int .i64 x2,.int .i64 x3,.int .i64 x4,.int .i64 x5],.slice none 0 0]) (results_cell_tmp (p:=2) (u:=3) (ty:=88) rfl _ _ (w.heap.size + 1) _ _ _ _ rfl HE6.out Try.underlying88 rfl (by kernel_rfl)) rfl ⟨?_,?_⟩
   ·rw [HX.out];rfl
   have hg:w.heap.size ≤ w.heap.size + 1:=by omega
   exact (((((HB2.out.setCell hg _).setCell hg _).setCell hg _).setCell hg _).setCell hg _).setCell hg _
  go_wp2_with (first
   | (at_lookup;refine wpList_lookup_own_ok_int _ rfl _ _ 129 rfl 88 3 .i64 law88 Try.underlying129 Try.underlying3 (zero3 _) (w.heap.size + 3) i D rfl hown _ _ rfl hkey ?_;intro c hat hwc;rw [hhas])
   | (at_mapUpdate;refine wpList_mapUpdate_own _ rfl _ _ _ 129 rfl 88 3 law88 Try.underlying129 _ (w.heap.size + 3) i D rfl hown (by unfold maxLen;omega) _ _ _ rfl rfl hkey _ [] (plainElem_int Try.underlying3 (WalkArith.wf_i64 (by omega))) ?_;intro w1 hown1 hgrow1;have g4:=(hgrow1.block (w.heap.size + 2) (by omega) (some_ne (by omega))).trans H4.out;obtain ⟨q0,q1,q2,q3,q4,q5⟩:=cells6 g4;have g1:=(hgrow1.block w.heap.size (by omega) (some_ne (by omega))).trans H1.out;have hca:=cell_of_row _ w.heap.size 0 _ _ _ g1;have hcb:=cell_of_row _ w.heap.size 1 _ _ _ g1))
  have hs1:w.heap.size + 4 ≤ w1.heap.size:=Nat.le_trans hge hgrow1.size
  have g2:=(hgrow1.block (w.heap.size + 1) (by omega) (some_ne (by omega))).trans H2.out
  have hB1:Below w.heap.size w w1:=HB.out.grown hgrow1 HB.out.size (fun k e=>by injection e;omega)
  have hr6:=Kd.R_grown1 HR6.out rfl hgrow1 (map_ne hown HR6.out)
  have hr7:=Kd.R_grown1 HR7.out rfl hgrow1 (map_ne hown HR7.out)
  obtain ⟨hwr,hp0,hst⟩:=HW.out.step i hiK
  rw [HX.out] at hwr hst
  have HC:=wrong110 [x0,x1,x2,x3,x4,x5] rfl n hn s hsz w1
  rw [hwr] at HC
  refine HC.mono ?_
  rintro e w2 ⟨rfl,hb2⟩
  obtain ⟨p,hpe⟩:∃ p,pt i = p:=⟨_,rfl⟩
  obtain ⟨q,hqe⟩:∃ q,sg i = q:=⟨_,rfl⟩
  rw [hpe] at hp0 hst ⊢
  rw [hqe] at hst ⊢
  have hlt:decide (p < 0) = false:=decide_eq_false (by omega)
  have hlt2:¬ p < 0:=by omega
  have hs2:w.heap.size + 4 ≤ w2.heap.size:=Nat.le_trans hs1 hb2.size
  have g12:=(hb2.block _ (blk_lt g1)).trans g1
  have g22:=(hb2.block _ (blk_lt g2)).trans g2
  have g42:=(hb2.block _ (blk_lt g4)).trans g4
  have hca2:=cell_of_row _ w.heap.size 0 _ _ _ g12
  obtain ⟨y0,y1,y2,y3,y4,y5⟩:=cells6 g42
  have G12:=Lib.hid g12
  have G22:=Lib.hid g22
  have G42:=Lib.hid g42
  have HB2:=Lib.hid (hB1.trans (hb2.mono hB1.size))
  have HO2:=Lib.hid (ownsMap_block hown1 (hb2.block (w.heap.size + 3) (by omega)))
  have H62:=Lib.hid (RI_step hr6 fun k _ h=>hb2.block k h)
  have H72:=Lib.hid (RI_step hr7 fun k _ h=>hb2.block k h)
  have HST:=Lib.hid hst
  have HWR:=Lib.hid hwr
  have HP:=Lib.hid hpe
  have HQ:=Lib.hid hqe
  have HM1:=Lib.hid (mapI_succ HM.out HW.out.len (fun j hj=>HW.out.wf j (by omega)) (fun j hj=>HW.out.inj j i hj hiK))
  clear HC hwr hst hpe hqe hb2 g12 g22 g42 hB1 hown1 hr6 hr7 g1 g2 g4 hca hcb q0 q1 q2 q3 q4 q5 hown hat hhas hkey hgrow1 hs1
  go_wp2_with fail
  refine (changed63 [x0,x1,x2,x3,x4,x5] rfl n hn p q _).mono ?_
  rintro e w3 ⟨rfl,hb3⟩
  obtain ⟨z0,z1,z2,z3,z4,z5,hz⟩:=six (chV [x0,x1,x2,x3,x4,x5] p q n) (by rw [chV_len];rfl)
  rw [hz]
  have g43:=(hb3.block _ (blk_lt G42.out)).trans G42.out
  obtain ⟨f0,f1,f2,f3,f4,f5⟩:=frozen6 g43
  obtain ⟨r0,r1,r2,r3,r4,r5⟩:=cells6 g43
  have G13:=Lib.hid ((hb3.block _ (blk_lt G12.out)).trans G12.out)
  have G23:=Lib.hid ((hb3.block _ (blk_lt G22.out)).trans G22.out)
  have G43:=Lib.hid g43
  have HB3:=Lib.hid (HB2.out.trans (hb3.mono HB2.out.size))
  have HO3:=Lib.hid (ownsMap_block HO2.out (hb3.block (w.heap.size + 3) (by omega)))
  have H63:=Lib.hid (RI_step H62.out fun k _ h=>hb3.block k h)
  have H73:=Lib.hid (RI_step H72.out fun k _ h=>hb3.block k h)
  have hs3:w.heap.size + 4 ≤ w3.heap.size:=Nat.le_trans hs2 hb3.size
  have HZ:=Lib.hid hz
  clear hb3 g43 hz y0 y1 y2 y3 y4 y5 hca2 HB2 G12 G22 G42 HO2 H62 H72
  unfold stV
  have e6:=blk_set (blk_set (blk_set (blk_set (blk_set (blk_set G43.out 0 (.int .i64 z0)) 1 (.int .i64 z1)) 2 (.int .i64 z2)) 3 (.int .i64 z3)) 4 (.int .i64 z4)) 5 (.int .i64 z5)
  have HE6:=Lib.hid e6
  clear e6
  go_wp2_with (first
   | ((with_reducible refine gate_builtin (b:=.append) (xs:=#[.tmp 47,.tmp 49]) rfl ?_);at_builtin;obtain ⟨W4,hW4⟩:∃ W4,((((((w3.setCell { block:=w.heap.size + 1 + 1,off:=0 } (.int .i64 z0)).setCell { block:=w.heap.size + 1 + 1,off:=1 } (.int .i64 z1)).setCell { block:=w.heap.size + 1 + 1,off:=2 } (.int .i64 z2)).setCell { block:=w.heap.size + 1 + 1,off:=3 } (.int .i64 z3)).setCell { block:=w.heap.size + 1 + 1,off:=4 } (.int .i64 z4)).setCell { block:=w.heap.size + 1 + 1,off:=5 } (.int .i64 z5)) = W4:=⟨_,rfl⟩;rw [hW4];have hs4:W4.heap.size = w3.heap.size:=(by rw [← hW4];simp only [size_set]);have H64:RI W4 (w.heap.size + 4) (.slice A6 i c6) (seqI pt i):=(by rw [← hW4];exact RI_set (RI_set (RI_set (RI_set (RI_set (RI_set (H63.out) (by omega) _) (by omega) _) (by omega) _) (by omega) _) (by omega) _) (by omega) _);have H74:RI W4 (w.heap.size + 4) u7 (seqI sg i):=(by rw [← hW4];exact RI_set (RI_set (RI_set (RI_set (RI_set (RI_set (H73.out) (by omega) _) (by omega) _) (by omega) _) (by omega) _) (by omega) _) (by omega) _);have HW4:=Lib.hid hW4;have HH64:=Lib.hid H64;have HH74:=Lib.hid H74;clear hW4 H64 H74;(refine Kd.R_append (Kd.int .i64) (w0:=W4) (w.heap.size + 4) rfl (.tmp 47) (.tmp 49) 22 3 (.int .i64 0) 8 rfl Try.underlying22 info3 rfl (by decide) (by omega) (.slice A6 i c6) (seqI pt i) p [.int .i64 p] (fun _=>True) (fun _=>False) rfl (by rw [hs4];first | (go_simp;done) | (go_simp;rfl)) ?aP (fun _ hk=>hk.elim) ?aF ?aO ?aB ?aS ?aL ?_);(case aB=>exact Below.refl _ W4);(case aP=>exact rfl);(case aF=>exact (fun _ _=>trivial));(case aO=>exact HH64.out);(case aS=>rw [hs4];exact hs3);(case aL=>rw [seqI_len];omega);intro v6 w4 ho4 hb4 hg4 hat4)
   | ((with_reducible refine gate_builtin (b:=.append) (xs:=#[.tmp 51,.tmp 53]) rfl ?_);at_builtin;refine Kd.R_append (Kd.int .i64) (w0:=w4) (w.heap.size + 4) rfl (.tmp 51) (.tmp 53) 22 3 (.int .i64 0) 8 rfl Try.underlying22 info3 rfl (by decide) (by omega) u7 (seqI sg i) q [.int .i64 q] (fun _=>True) (fun _=>False) rfl (by first | (go_simp;done) | (go_simp;rfl)) ?aP (fun _ hk=>hk.elim) ?aF ?aO ?aB ?aS ?aL ?_;(case aB=>exact Below.refl _ w4);(case aP=>exact rfl);(case aF=>exact (fun _ _=>trivial));(case aO=>exact Kd.R_grown2 HH74.out rfl hg4 (ap_sym HAP.out));(case aS=>exact Nat.le_trans (hs4 ▸ hs3) hb4.size);(case aL=>rw [seqI_len];omega);intro v7 w5 ho5 hb5 hg5 hat5))
  go_roundg (K - (i + 1))
  case measure=>omega
  case rel =>
   have hne6:∀ k,u7.ownBlock = some k → some k ≠ v6.ownBlock:=fun k hk e=>by
    rcases hat4 with h | ⟨b,h,hle⟩
    ·rw [h] at e
     rcases HAP.out with h2 | h2
     ·rw [h2] at e;cases e
     exact h2 (e.symm.trans hk.symm)
    rw [h] at e
    have:=(RI_own HH74.out hk).2
    injection e with e
    omega
   have h6:=Kd.R_grown2 ho4 rfl hg5 hne6
   have hblk:∀ k,k < w.heap.size + 4 → k ≠ w.heap.size + 2 → w5.heap[k]? = w3.heap[k]?:=fun k hk hne=>by
    rw [hb5.block k hk,hb4.block k hk,← HW4.out]
    have hd:∀ o:Nat,k ≠ ({ block:=w.heap.size + 1 + 1,off:=o }:Addr).block:=fun o=>by show k ≠ w.heap.size + 1 + 1;omega
    rw [Below.heap_setCell _ _ _ _ (hd 5),Below.heap_setCell _ _ _ _ (hd 4),Below.heap_setCell _ _ _ _ (hd 3),Below.heap_setCell _ _ _ _ (hd 2),Below.heap_setCell _ _ _ _ (hd 1),Below.heap_setCell _ _ _ _ (hd 0)]
   have hg2:w.heap.size ≤ w.heap.size + 1 + 1:=by omega
   have hB4:Below w.heap.size w W4:=by
    rw [← HW4.out]
    exact (((((HB3.out.setCell hg2 _).setCell hg2 _).setCell hg2 _).setCell hg2 _).setCell hg2 _).setCell hg2 _
   refine ⟨i + 1,by omega,_,hiK,hB4.trans ((hb4.mono (by omega)).trans (hb5.mono (by omega))),(hblk _ (by omega) (by omega)).trans G13.out,(hblk _ (by omega) (by omega)).trans G23.out,?_,ownsMap_block HO3.out (hblk _ (by omega) (by omega)),HM1.out,?_,?_,?_,?_⟩
   ·rw [hb5.block _ (by omega),hb4.block _ (by omega),← HW4.out,HST.out,HZ.out]
    exact HE6.out
   ·rw [seqI_succ,HP.out];exact h6
   ·rw [seqI_succ,HQ.out];exact ho5
   ·rcases hat5 with h | ⟨b,h,hle⟩
    ·rw [h]
     cases e:v6.ownBlock with
     | none=>exact .inl rfl
     | some k =>
      right
      intro e2
      exact hne6 k e2.symm e.symm
    rw [h]
    cases e:v6.ownBlock with
    | none=>exact .inl rfl
    | some k =>
     right
     intro e2
     have:=(RI_own ho4 e).2
     injection e2 with e2
     omega
   exact Nat.le_trans (Nat.le_trans (hs4 ▸ hs3) hb4.size) hb5.size
end Go.Proofs.Ythpahlkhiknofaa.H
namespace Go.Proofs.Ythpahlkhiknofaa.H
open Go Go.RowKit Go.Shelf Go.Proofs.Ythpahlkhiknofaa.G Go.Proofs.Ythpahlkhiknofaa.P Go.Proofs.YthpahlkhiknofaaW.PrintWords
/-- What the function says of each cube,in each world that has grown from one. -/
def Says (F:Nat) (b:Addr) (w:World) (φ:S96 → Bool):Prop:=∀ W x,Below w.heap.size w W → Calls Try.prog F #[.agg #[.int .i64 x.f0,.int .i64 x.f1],.pointer (some b)] W fun e W'=>e = .returned (.bool (φ x)) ∧ Below W.heap.size W W'
theorem Says.mono {F:Nat} {b:Addr} {w w1:World} {φ:S96 → Bool} (h:Says F b w φ) (hb:Below w.heap.size w w1):Says F b w1 φ:=fun W x hW=>h W x (hb.trans (hW.mono hb.size))
end Go.Proofs.Ythpahlkhiknofaa.H
namespace Go.Proofs.Ythpahlkhiknofaa.G
open Go Go.RowKit Go.Proofs.YthpahlkhiknofaaW.PrintWords Go.Proofs.YthpahlkhiknofaaW.PrintLast Go.Proofs.YthpahlkhiknofaaW.PrintMore
theorem R_empty {α:Type} (d:Kd α) {e:Nat} {w:World} {base g:Nat} (h:w.heap[g]? = some (.cells #[] e (0,0))) (hg:base ≤ g):Kd.R d e w base (fun _=>True) (.slice (some ⟨g,0,none⟩) 0 0) []:=by
 refine ⟨fun _ _=>trivial,[],?_,?_⟩
 ·refine ⟨by simp,.inr ⟨g,0,#[],rfl,hg,h,Nat.le_refl _,Nat.zero_le _,by simp,by simp⟩⟩
 exact Reps.none _ _
end Go.Proofs.Ythpahlkhiknofaa.G
namespace Go.Proofs.Ythpahlkhiknofaa.H
open Go Go.RowKit Go.Shelf Go.Proofs.Ythpahlkhiknofaa.G Go.Proofs.Ythpahlkhiknofaa.P Go.Proofs.YthpahlkhiknofaaW.PrintWords Go.Proofs.YthpahlkhiknofaaW.PrintLast Go.Proofs.YthpahlkhiknofaaW.PrintMore
set_option maxHeartbeats 8000000 in
set_option maxRecDepth 100000 in
theorem clone80 (ad:Addr) (c:Nat) (l:List Int) (w:World) (hl:Kd.C (Kd.int .i64) w (some ad) l.length l) (hlc:l.length ≤ c) (hlen:l.length < 1000000) :
  Calls Try.prog 80 #[.slice (some ad) l.length c] w fun e w'=>∃ v:Value,e = .returned v ∧ Kd.R (Kd.int .i64) 3 w' w.heap.size (fun _=>True) v l ∧ Below w.heap.size w w':=by
 have HL:=Lib.hid hl
 have HLC:=Lib.hid hlc
 have HB:=Lib.hid (Below.refl w.heap.size w)
 have he:=Lib.run_eql_slice_nil (P:=Try.prog) w 22 3 (some ad) l.length c 0 0 Try.underlying22
 go_enter Try.func80,Try.ntmps80
 have hbe:Below w.heap.size w (w.alloc (Obj.cells #[] 3)):=(Below.refl _ _).alloc (Nat.le_refl _) _
 have hh:=World.alloc_heap_new w (Obj.cells #[] 3)
 have HE:=Lib.hid (R_empty (e:=3) (Kd.int .i64) (w:=w.alloc (Obj.cells #[] 3)) (base:=w.heap.size) (g:=w.heap.size) hh (Nat.le_refl _))
 go_wp2_with ((with_reducible refine gate_builtin (b:=.append) (xs:=#[.tmp 5,.tmp 6]) rfl ?_);at_builtin;refine Kd.R_append_rows (Kd.int .i64) (w0:=w) w.heap.size rfl (.tmp 5) (.tmp 6) 22 3 (.int .i64 0) 8 rfl Try.underlying22 info3 rfl (by decide) (by omega) (.slice (some ⟨w.heap.size,0,none⟩) 0 0) ([]:List Int) l _ _ _ (fun _=>True) (fun _=>False) rfl rfl ?aO ?aR (fun _ _ h=>h) (fun _ h=>h.elim) ?aF ?aB ?aS ?aL ?_;(case aO=>exact HE.out);(case aR=>exact Kd.C_alloc HL.out _);(case aF=>exact fun _ _=>trivial);(case aB=>exact hbe);(case aS=>exact hbe.size);(case aL=>simp only [List.length_nil];omega);intro v106 w7 ho hb hg hat;have HO:=Lib.hid ho;have HB7:=Lib.hid hb;clear ho hb hg hat)
 exact bodyPost_ret (v:=v106) (results_tmp (t:=2) rfl _ _ _) rfl ⟨v106,rfl,HO.out,HB7.out⟩
end Go.Proofs.Ythpahlkhiknofaa.H
namespace Go.Proofs.Ythpahlkhiknofaa.H
open Go Go.RowKit Go.Shelf Go.Proofs.Ythpahlkhiknofaa.G Go.Proofs.Ythpahlkhiknofaa.P Go.Proofs.YthpahlkhiknofaaW.PrintWords Go.Proofs.YthpahlkhiknofaaW.PrintLast Go.Proofs.YthpahlkhiknofaaW.PrintMore
theorem row_C {w:World} {g:Nat} {l:List Int} (hh:w.heap[g]? = some (rowO l)) {k:Nat} (hk:k ≤ l.length) (hl:l.length ≤ 9):Kd.C (Kd.int .i64) w (some ⟨g,0,none⟩) (l.take k).length (l.take k):=by
 refine Kd.C_of_reads (d:=0) ⟨rfl,by rw [List.length_take];omega,fun _=>⟨_,rfl,fun j hj=>?_⟩⟩
 rw [List.length_take] at hj
 rw [Addr.add_lit]
 refine (cell_of_row w g (0 + j) _ _ _ hh).trans ?_
 rw [List.getElem?_toArray,List.getElem?_map,Nat.zero_add,List.getElem?_eq_getElem (by omega),List.getD_eq_getElem?_getD,List.getElem?_take,if_pos (by omega),List.getElem?_eq_getElem (by omega)];rfl
theorem results_tmp3 {fn:Func} {t u x:Tmp} (h:fn.results = #[.tmp t,.tmp u,.tmp x]) (tmps:Array Value) (P:Program) (w:World) :
  (results fn tmps).run P w = .ok (.tuple #[tmps.getD t undef,tmps.getD u undef,tmps.getD x undef]) w:=by
 simp [results,h]
theorem slice88 (a:Addr) (n:Nat) (hn:n ≤ 5) (w:World):(Instr.sliceAt 88 (.pointer (some a)) none (some (.int .i64 ((n:Int) + 1))) none).run Try.prog w = .ok (.slice (some a) (n + 1) 6) w:=by
 have hl:Try.prog.arrayLen 88 = 6:=by kernel_rfl
 have he:Try.prog.elem 88 = 3:=by kernel_rfl
 have hu:Try.prog.underlying 88 = some (.array (Try.prog.arrayLen 88) (Try.prog.elem 88)):=by rw [hl,he];exact Try.underlying88
 rw [run_sliceAt_array_h w 88 a hu .i64 ((n:Int) + 1) (by omega) (by rw [hl];omega),hl,he,Try.sizeOf3]
 unfold slicedAt
 have e:((n:Int) + 1).toNat = n + 1:=by omega
 simp [Result.andThen,e,Addr.add]
set_option maxHeartbeats 8000000 in
set_option maxRecDepth 100000 in
theorem weights44_ok (s:ByteArray) (n:Nat) (hn:n ≤ 5) (xs:List Int) (hx:xs.length = 6) (hnew:card_newTotal.f s = some ((n:Int),s,true)) (h79:∀ w:World,Calls Try.prog 79 #[.agg #[.int .i64 (n:Int),.string s]] w fun e w'=>e = .returned (.tuple #[stV xs,.slice none 0 0]) ∧ Below w.heap.size w w') (w:World) :
  Calls Try.prog 44 #[.string s] w fun e w'=>∃ v:Value,e = .returned (.tuple #[v,.slice none 0 0,.int .i64 0]) ∧ Kd.R (Kd.int .i64) 3 w' w.heap.size (fun _=>True) v (xs.take (n + 1)) ∧ Below w.heap.size w w':=by
 obtain ⟨x0,x1,x2,x3,x4,x5,hx6⟩:=six xs hx
 subst hx6
 have HN:=Lib.hid (card_newTotal.calls s n s true w hnew)
 have H79:=Lib.hid h79
 clear h79
 go_enter Try.func44,Try.ntmps44
 go_wp2_with fail
 refine HN.out.mono ?_
 rintro e w1 ⟨rfl,hb1⟩
 have HB1:=Lib.hid hb1
 clear hb1
 go_wp2_with fail
 refine (H79.out _).mono ?_
 rintro e w3 ⟨rfl,hb3⟩
 have hg:=World.alloc_heap_new w1 (Obj.cells #[Value.int IntKind.i64 (n:Int),Value.string s] 81)
 have hb2:Below w.heap.size w (w1.alloc (Obj.cells #[Value.int IntKind.i64 (n:Int),Value.string s] 81)):=HB1.out.alloc HB1.out.size _
 have hg3:=(hb3.block _ (blk_lt hg)).trans hg
 have hc3:=cell_of_row _ _ 0 _ _ _ hg3
 have HB3:=Lib.hid (hb2.trans (hb3.mono hb2.size))
 have HG3:=Lib.hid hg3
 clear hb2 hb3 hg hg3
 have he:=Lib.run_eql_slice_nil (P:=Try.prog) w3 23 22 none 0 0 0 0 Try.underlying23
 unfold stV
 have hb5:Below w3.heap.size w3 (w3.alloc (Obj.cells #[Value.int IntKind.i64 x0,Value.int IntKind.i64 x1,Value.int IntKind.i64 x2,Value.int IntKind.i64 x3,Value.int IntKind.i64 x4,Value.int IntKind.i64 x5] 88)):=(Below.refl _ _).alloc (Nat.le_refl _) _
 have hc5:=(hb5.cell (World.block_lt_of_cell? _ _ hc3)).trans hc3
 have hw1:wrap64 ((n:Int) + 1) = ((n + 1:Nat):Int):=wrap_succ (by omega)
 have hr5:=World.alloc_heap_new w3 (rowO [x0,x1,x2,x3,x4,x5])
 have HC5:=Lib.hid (row_C hr5 (k:=n + 1) (by show n + 1 ≤ 6;omega) (by show 6 ≤ 9;decide))
 have HB5:=Lib.hid hb5
 clear hb5 hr5
 have hsl:=slice88 { block:=w3.heap.size,off:=0 } n hn
 go_wp2_with fail
 have hlen:(List.take (n + 1) [x0,x1,x2,x3,x4,x5]).length = n + 1:=by rw [List.length_take];show min (n + 1) 6 = n + 1;omega
 have HC:=clone80 { block:=w3.heap.size,off:=0 } 6 _ _ HC5.out (by rw [hlen];omega) (by rw [hlen];omega)
 rw [hlen] at HC
 refine HC.mono ?_
 rintro e w6 ⟨v6,rfl,ho6,hb6⟩
 have HO6:=Lib.hid ho6
 have HB6:=Lib.hid hb6
 clear ho6 hb6 HC
 go_wp2_with fail
 have hs3:w.heap.size ≤ w3.heap.size:=HB3.out.size
 have hs5:=HB5.out.size
 refine bodyPost_ret (v:=.tuple #[v6,.slice none 0 0,.int .i64 0]) (results_tmp3 (t:=2) (u:=3) (x:=4) rfl _ _ _) rfl ⟨v6,rfl,Kd.R_lower HO6.out (Nat.le_trans hs3 hs5),HB3.out.trans ((HB5.out.mono hs3).trans (HB6.out.mono (Nat.le_trans hs3 hs5)))⟩
set_option maxHeartbeats 8000000 in
set_option maxRecDepth 100000 in
theorem weights44_no (s:ByteArray) (n:Int) (hnew:card_newTotal.f s = some (n,s,false)) (w:World) :
  Calls Try.prog 44 #[.string s] w fun e w'=>e = .returned (.tuple #[.slice none 0 0,.slice none 0 0,.int .i64 2]) ∧ Below w.heap.size w w':=by
 have HN:=Lib.hid (card_newTotal.calls s n s false w hnew)
 go_enter Try.func44,Try.ntmps44
 go_wp2_with fail
 refine HN.out.mono ?_
 rintro e w1 ⟨rfl,hb1⟩
 have HB1:=Lib.hid hb1
 clear hb1
 go_wp2_with fail
 exact bodyPost_ret (v:=.tuple #[.slice none 0 0,.slice none 0 0,.int .i64 2]) (results_tmp3 (t:=2) (u:=3) (x:=4) rfl _ _ _) rfl ⟨rfl,HB1.out.alloc HB1.out.size _⟩
def EndsAt (n:Nat) (s:ByteArray) (xs:List Int):Prop:=∃ (st:Nat → List Int) (pt sg:Nat → Int) (K:Nat),K ≤ 1000000000 ∧ Wg n s st pt sg K ∧ wrL (st K) n s s.size 0 = (-1,0) ∧ (∀ j,j < K → st j ≠ st K) ∧ st K = xs
theorem ends_len {n:Nat} {s:ByteArray} {xs:List Int} (h:EndsAt n s xs):xs.length = 6:=by
 obtain ⟨st,pt,sg,K,_,hW,_,_,rfl⟩:=h
 exact hW.len K
theorem ends_calls {n:Nat} (hn:n ≤ 5) {s:ByteArray} (hsz:s.size ≤ 1000) {xs:List Int} (h:EndsAt n s xs) (w:World):Calls Try.prog 79 #[.agg #[.int .i64 (n:Int),.string s]] w fun e w'=>e = .returned (.tuple #[stV xs,.slice none 0 0]) ∧ Below w.heap.size w w':=by
 obtain ⟨st,pt,sg,K,hK,hW,he,hnw,rfl⟩:=h
 exact weigh79 n hn s hsz st pt sg K hK hW he hnw w
end Go.Proofs.Ythpahlkhiknofaa.H
namespace Go.Proofs.Ythpahlkhiknofaa.G
open Go Go.RowKit Go.Proofs.YthpahlkhiknofaaW.PrintWords Go.Proofs.YthpahlkhiknofaaW.PrintMore
open Classical in
noncomputable def card_Weights.f (a0:ByteArray):Option (List Int × List (List Int) × Int):=(card_newTotal.f a0).bind fun t=>if okT a0 t.1 t.2.1 t.2.2 then (if t.2.2 = true then (if h:∃ xs,H.EndsAt t.1.toNat a0 xs then some (h.choose.take (t.1.toNat + 1),[],0) else none) else some ([],[],2)) else none
theorem card_Weights.calls (a0:ByteArray) (r1:List Int) (r2:List (List Int)) (r3:Int) (w:World) (h:card_Weights.f a0 = some (r1,r2,r3)) :
  Calls Try.prog 44 #[.string a0] w fun e w'=>∃ v0_ v1_:Value,e = .returned (.tuple #[v0_,v1_,.int .i64 r3]) ∧ Kd.R (Kd.int .i64) 3 w' w.heap.size (fun _=>True) v0_ r1 ∧ Kd.S (Kd.slice 3 (Kd.int .i64)) 22 w' w.heap.size (fun k_=>some k_ ≠ (v0_:Value).ownBlock) v1_ r2 ∧ Below w.heap.size w w':=by
 unfold card_Weights.f at h
 obtain ⟨t,ht,h⟩:=Option.bind_eq_some_iff.1 h
 obtain ⟨n,s,ok⟩:=t
 by_cases hf:okT a0 n s ok
 case neg =>
  rw [if_neg (show ¬ okT a0 (n,s,ok).1 (n,s,ok).2.1 (n,s,ok).2.2 from hf)] at h
  cases h
 rw [if_pos (show okT a0 (n,s,ok).1 (n,s,ok).2.1 (n,s,ok).2.2 from hf)] at h
 obtain ⟨rfl,h1,h2⟩:=hf
 cases ok with
 | false =>
  rw [if_neg (show ¬ (false = true) by decide)] at h
  have h3:=Option.some.inj h
  injection h3 with h4 h5
  injection h5 with h6 h7
  subst h4 h6 h7
  refine (H.weights44_no a0 n ht w).mono fun e w' hh=>?_
  exact ⟨_,_,hh.1,Kd.R_nil _ _ _ _ _,Kd.S_nil _ _ _ _ _,hh.2⟩
 | true =>
  rw [if_pos (show (true = true) from rfl)] at h
  obtain ⟨h2,h3⟩:=h2 rfl
  obtain ⟨m,rfl⟩:∃ m:Nat,n = (m:Int):=⟨n.toNat,by omega⟩
  simp only [Int.toNat_natCast] at h
  by_cases he:∃ xs,H.EndsAt m a0 xs
  case neg =>
   rw [dif_neg he] at h
   cases h
  rw [dif_pos he] at h
  have h3:=Option.some.inj h
  injection h3 with h4 h5
  injection h5 with h6 h7
  subst h4 h6 h7
  refine (H.weights44_ok a0 m (by omega) he.choose (H.ends_len he.choose_spec) ht (H.ends_calls (by omega) h1 he.choose_spec) w).mono fun e w' hh=>?_
  obtain ⟨v,e1,hr,hb⟩:=hh
  exact ⟨v,_,e1,hr,Kd.S_nil _ _ _ _ _,hb⟩
end Go.Proofs.Ythpahlkhiknofaa.G
namespace Go.Proofs.Ythpahlkhiknofaa.J
def bI (p i:Nat):Int:=if p.testBit i = true then 1 else 0
theorem bI_cases (p i:Nat):bI p i = 0 ∨ bI p i = 1:=by unfold bI;split <;> simp
def aV (n p v:Nat):Int:=if v = n then -1 else if v < n then bI p v else 0
theorem aV_sq (n p v:Nat):aV n p v * aV n p v ≤ 1:=by
  unfold aV
  split
  · decide
  · split
    · rcases bI_cases p v with h | h <;> rw [h] <;> decide
    · decide
def dot (f g:Nat → Int):Int:=f 0 * g 0 + f 1 * g 1 + f 2 * g 2 + f 3 * g 3 + f 4 * g 4 + f 5 * g 5
def addS (x:Nat → Int) (s:Int) (a:Nat → Int):Nat → Int:=fun v=>x v + s * a v
theorem dot_add (x a w:Nat → Int) (s:Int):dot (addS x s a) w = dot x w + s * dot a w:=by
  unfold dot addS;grind
theorem dot_self (x a:Nat → Int) (s:Int):dot (addS x s a) (addS x s a) = dot x x + 2 * (s * dot x a) + s * s * dot a a:=by
  unfold dot addS;grind
theorem dot_aa (n p:Nat):dot (aV n p) (aV n p) ≤ 6:=by
  have h0:=aV_sq n p 0
  have h1:=aV_sq n p 1
  have h2:=aV_sq n p 2
  have h3:=aV_sq n p 3
  have h4:=aV_sq n p 4
  have h5:=aV_sq n p 5
  unfold dot;omega
theorem sq_nn (a:Int):0 ≤ a * a:=by
  rcases Int.le_total 0 a with h | h
  · exact Int.mul_nonneg h h
  · exact Int.mul_nonneg_of_nonpos_of_nonpos h h
theorem norm_nn (x:Nat → Int):0 ≤ dot x x:=by
  have h0:=sq_nn (x 0)
  have h1:=sq_nn (x 1)
  have h2:=sq_nn (x 2)
  have h3:=sq_nn (x 3)
  have h4:=sq_nn (x 4)
  have h5:=sq_nn (x 5)
  unfold dot;omega
theorem norm_diff (x w:Nat → Int):8 * dot x w ≤ dot x x + 16 * dot w w:=by
  have h:=norm_nn (addS x (-4) w)
  rw [dot_self] at h
  omega
/-- The first point on the wrong side. -/
def wrg (f:Nat → Bool) (V:Nat → Int) (p:Nat):Bool:=if f p = true then decide (V p ≤ 0) else decide (0 ≤ V p)
def fw (f:Nat → Bool) (V:Nat → Int):Nat → Nat → Option Nat
  | 0,_=>none
  | d + 1,p=>if wrg f V p = true then some p else fw f V d (p + 1)
theorem fw_some {f:Nat → Bool} {V:Nat → Int}:∀ {d p q},fw f V d p = some q → p ≤ q ∧ q < p + d ∧ wrg f V q = true ∧ ∀ r,p ≤ r → r < q → wrg f V r = false
  | 0,_,_,h=>by cases h
  | d + 1,p,q,h=>by
    rw [fw] at h
    by_cases e:wrg f V p = true
    · rw [if_pos e] at h
      obtain rfl:=Option.some.inj h
      exact ⟨Nat.le_refl _,by omega,e,fun r h1 h2=>by omega⟩
    · rw [if_neg e] at h
      obtain ⟨h1,h2,h3,h4⟩:=fw_some h
      refine ⟨by omega,by omega,h3,fun r h5 h6=>?_⟩
      by_cases e2:r = p
      · subst e2;simpa using e
      · exact h4 r (by omega) h6
def sgF (f:Nat → Bool) (p:Nat):Int:=if f p = true then 1 else -1
theorem sgF_cases (f:Nat → Bool) (p:Nat):sgF f p = 1 ∨ sgF f p = -1:=by unfold sgF;split <;> simp
def vals (n:Nat) (x:Nat → Int):Nat → Int:=fun p=>dot x (aV n p)
def fwx (f:Nat → Bool) (n m:Nat) (x:Nat → Int):Option Nat:=fw f (vals n x) m 0
def stp (f:Nat → Bool) (n m:Nat) (x:Nat → Int):Nat → Int:=match fwx f n m x with
  | none=>x
  | some p=>addS x (sgF f p) (aV n p)
def z0:Nat → Int:=fun _=>0
def run (f:Nat → Bool) (n m:Nat):Nat → Nat → Int
  | 0=>z0
  | k + 1=>stp f n m (run f n m k)
theorem run_succ {f:Nat → Bool} {n m k p:Nat} (h:fwx f n m (run f n m k) = some p):run f n m (k + 1) = addS (run f n m k) (sgF f p) (aV n p):=by
  rw [run,stp,h]
theorem wrong_sg {f:Nat → Bool} {n m k p:Nat} (h:fwx f n m (run f n m k) = some p):sgF f p * dot (run f n m k) (aV n p) ≤ 0 ∧ p < m:=by
  obtain ⟨_,h1,h2,_⟩:=fw_some h
  refine ⟨?_,by omega⟩
  unfold wrg vals at h2
  unfold sgF
  by_cases e:f p = true
  · rw [if_pos e] at h2 ⊢
    have:=of_decide_eq_true h2
    omega
  · rw [if_neg e] at h2 ⊢
    have:=of_decide_eq_true h2
    omega
/-- Weights with a margin. -/
def Marg (f:Nat → Bool) (n m:Nat) (w:Nat → Int):Prop:=∀ p,p < m → 1 ≤ sgF f p * dot (aV n p) w
section
variable {f:Nat → Bool} {n m:Nat} {w:Nat → Int} (hw:Marg f n m w)
include hw
theorem conv_step {k:Nat} {p:Nat} (h:fwx f n m (run f n m k) = some p):dot (run f n m k) w + 1 ≤ dot (run f n m (k + 1)) w:=by
  obtain ⟨_,hp⟩:=wrong_sg h
  have h2:=hw p hp
  rw [run_succ h,dot_add]
  omega
theorem conv_dot:∀ k,(∀ j,j < k → fwx f n m (run f n m j) ≠ none) → (k:Int) ≤ dot (run f n m k) w ∧ dot (run f n m k) (run f n m k) ≤ 6 * k
  | 0,_=>by constructor <;> simp [run,z0,dot]
  | k + 1,h=>by
    obtain ⟨h1,h2⟩:=conv_dot k fun j hj=>h j (by omega)
    cases e:fwx f n m (run f n m k) with
    | none=>exact absurd e (h k (by omega))
    | some p =>
      have h3:=conv_step hw e
      refine ⟨by omega,?_⟩
      obtain ⟨h4,_⟩:=wrong_sg e
      have h5:=dot_aa n p
      rw [run_succ e,dot_self]
      have h6:sgF f p * sgF f p = 1:=by rcases sgF_cases f p with e | e <;> rw [e] <;> decide
      rw [h6]
      omega
theorem conv_bound {k:Nat} (h:∀ j,j < k → fwx f n m (run f n m j) ≠ none):(k:Int) ≤ 8 * dot w w:=by
  obtain ⟨h1,h2⟩:=conv_dot hw k h
  have h3:=norm_diff (run f n m k) w
  omega
theorem conv_mono {K:Nat} (h:∀ j,j < K → fwx f n m (run f n m j) ≠ none):∀ d i,i + d ≤ K → dot (run f n m i) w + d ≤ dot (run f n m (i + d)) w
  | 0,i,_=>by simp
  | d + 1,i,hd=>by
    have ih:=conv_mono h d i (by omega)
    cases e:fwx f n m (run f n m (i + d)) with
    | none=>exact absurd e (h _ (by omega))
    | some p =>
      have h3:=conv_step hw e
      rw [← Nat.add_assoc]
      omega
theorem conv_inj {K:Nat} (h:∀ j,j < K → fwx f n m (run f n m j) ≠ none) {i j:Nat} (hij:i < j) (hj:j ≤ K):run f n m i ≠ run f n m j:=by
  intro e
  have:=conv_mono hw h (j - i) i (by omega)
  rw [show i + (j - i) = j by omega,e] at this
  omega
theorem conv_end:∃ K:Nat,(K:Int) ≤ 8 * dot w w ∧ fwx f n m (run f n m K) = none ∧ (∀ j,j < K → fwx f n m (run f n m j) ≠ none):=by
  have hex:∃ K,fwx f n m (run f n m K) = none:=by
    apply Classical.byContradiction
    intro hn
    have h:∀ j,fwx f n m (run f n m j) ≠ none:=fun j e=>hn ⟨j,e⟩
    have:=conv_bound hw (k:=(8 * dot w w).toNat + 1) fun j _=>h j
    omega
  have key:∀ K,fwx f n m (run f n m K) = none → ∃ J,fwx f n m (run f n m J) = none ∧ ∀ j,j < J → fwx f n m (run f n m j) ≠ none:=by
    intro K
    induction K using Nat.strongRecOn with
    | ind K ih =>
      intro hK
      by_cases hall:∀ j,j < K → fwx f n m (run f n m j) ≠ none
      · exact ⟨K,hK,hall⟩
      · obtain ⟨j,hj⟩:=Classical.not_forall.1 hall
        obtain ⟨hj1,hj2⟩:=Classical.not_imp.1 hj
        exact ih j hj1 (Classical.not_not.1 hj2)
  obtain ⟨K,hK⟩:=hex
  obtain ⟨J,h1,h2⟩:=key K hK
  exact ⟨J,conv_bound hw h2,h1,h2⟩
end
end Go.Proofs.Ythpahlkhiknofaa.J
set_option linter.unusedSectionVars false
namespace Go.Proofs.Ythpahlkhiknofaa.P
open Go Go.RowKit Go.Proofs.Ythpahlkhiknofaa.M Go.Proofs.Ythpahlkhiknofaa.G Go.Proofs.Ythpahlkhiknofaa.H
open Go.Proofs.YthpahlkhiknofaaW.PrintWords Go.Proofs.YthpahlkhiknofaaW.PrintMore
theorem jbI (p i:Nat):J.bI p i = bI p i:=rfl
theorem aV_le (n p v:Nat):-1 ≤ J.aV n p v ∧ J.aV n p v ≤ 1:=by
  unfold J.aV
  split
  · decide
  · split
    · rcases J.bI_cases p v with h | h <;> rw [h] <;> decide
    · decide
theorem run_bd (f:Nat → Bool) (n m:Nat):∀ (k v:Nat),-(k:Int) ≤ J.run f n m k v ∧ J.run f n m k v ≤ (k:Int)
  | 0,v=>by simp [J.run,J.z0]
  | k + 1,v=>by
    have ih:=run_bd f n m k v
    cases e:J.fwx f n m (J.run f n m k) with
    | none =>
      have:J.run f n m (k + 1) = J.run f n m k:=by rw [J.run,J.stp,e]
      rw [this];omega
    | some p =>
      rw [J.run_succ e]
      have h:=aV_le n p v
      show -_ ≤ J.run f n m k v + J.sgF f p * J.aV n p v ∧ J.run f n m k v + J.sgF f p * J.aV n p v ≤ _
      rcases J.sgF_cases f p with h2 | h2 <;> rw [h2] <;> omega
theorem run_hi (f:Nat → Bool) (n m:Nat):∀ k v,n < v → J.run f n m k v = 0
  | 0,_,_=>rfl
  | k + 1,v,hv=>by
    have ih:=run_hi f n m k v hv
    cases e:J.fwx f n m (J.run f n m k) with
    | none =>
      have:J.run f n m (k + 1) = J.run f n m k:=by rw [J.run,J.stp,e]
      rw [this];exact ih
    | some p =>
      rw [J.run_succ e]
      show J.run f n m k v + J.sgF f p * J.aV n p v = 0
      rw [ih]
      unfold J.aV
      rw [if_neg (by omega),if_neg (by omega)];omega
theorem upd_add (n p:Nat) (sg:Int) (x:Nat → Int):updF n p sg x = J.addS x sg (J.aV n p):=by
  funext v
  unfold updF J.addS J.aV
  by_cases h:v = n
  · rw [if_pos h,if_pos h];omega
  · rw [if_neg h,if_neg h]
    by_cases h2:v < n
    · rw [if_pos h2,if_pos h2];rfl
    · rw [if_neg h2,if_neg h2];omega
theorem wsum_dot {n:Nat} (hn:n ≤ 5) (x:Nat → Int) (p:Nat):-x n + wsum (tabI 6 x) p n = J.dot x (J.aV n p):=by
  have e0:rd (tabI 6 x) 0 = x 0:=tabI_rd (m:=6) (i:=0) (by decide)
  have e1:rd (tabI 6 x) 1 = x 1:=tabI_rd (m:=6) (i:=1) (by decide)
  have e2:rd (tabI 6 x) 2 = x 2:=tabI_rd (m:=6) (i:=2) (by decide)
  have e3:rd (tabI 6 x) 3 = x 3:=tabI_rd (m:=6) (i:=3) (by decide)
  have e4:rd (tabI 6 x) 4 = x 4:=tabI_rd (m:=6) (i:=4) (by decide)
  unfold J.dot J.aV
  rcases (by omega:n = 0 ∨ n = 1 ∨ n = 2 ∨ n = 3 ∨ n = 4 ∨ n = 5) with rfl | rfl | rfl | rfl | rfl | rfl <;> simp [wsum,e0,e1,e2,e3,e4,jbI] <;> omega
section
variable {c:ByteArray} {n:Nat} (hT:Tot c n)
include hT
theorem vl_dot {x:Nat → Int} (hb:∀ v,-1000000000 ≤ x v ∧ x v ≤ 1000000000) {p:Nat} (hp:p < c.size):vlS (tabI 6 x) n p = J.vals n x p:=by
  have hn:=hT.n5
  have hle:=hT.le
  have h6:rd (tabI 6 x) (n:Int) = x n:=tabI_rd (by omega)
  have hbn:=hb n
  have h60:p < 2 ^ 60:=Nat.lt_of_lt_of_le (show p < 64 by omega) (by decide)
  have hS:Sm 1000000000 (tabI 6 x):=fun i hi=>by rw [tabI_rd hi];exact hb i
  unfold vlS
  rw [h6,wrap_id (by omega) (by omega),val_eq (by decide) (by decide) hS h60 (by omega) n hn,wsum_dot hn]
  rfl
def fB (c:ByteArray) (p:Nat):Bool:=bt c (p:Int) == 49
theorem wr_fw {x:Nat → Int} (hb:∀ v,-1000000000 ≤ x v ∧ x v ≤ 1000000000):∀ d p,p + d = c.size → wrL (tabI 6 x) n c d p = match J.fw (fB c) (J.vals n x) d p with
    | none=>(-1,0)
    | some q=>((q:Int),J.sgF (fB c) q):=by
  intro d
  induction d with
  | zero=>intro p _;rfl
  | succ d ih =>
    intro p hp
    have hv:=vl_dot hT hb (p:=p) (by omega)
    have hb2:=hT.val p (by omega)
    rw [wrL,J.fw,ih (p + 1) (by omega)]
    by_cases h:bt c (p:Int) = 49
    · have hf:fB c p = true:=by unfold fB;rw [h];rfl
      have hlow:lowB (tabI 6 x) n c p = decide (J.vals n x p ≤ 0):=by unfold lowB;rw [show (bt c (p:Int) == 49) = true from hf,Bool.true_and,hv]
      have hhigh:highB (tabI 6 x) n c p = false:=by unfold highB;rw [show (bt c (p:Int) == 48) = false from by rw [h];rfl];rfl
      have hw:J.wrg (fB c) (J.vals n x) p = decide (J.vals n x p ≤ 0):=by unfold J.wrg;rw [if_pos hf]
      have hsg:J.sgF (fB c) p = 1:=by unfold J.sgF;rw [if_pos hf]
      rw [hlow,hhigh,hw]
      cases decide (J.vals n x p ≤ 0)
      · rfl
      · show ((p:Int),(1:Int)) = ((p:Int),J.sgF (fB c) p)
        rw [hsg]
    · have h48:bt c (p:Int) = 48:=by omega
      have hf:fB c p = false:=by unfold fB;rw [h48];rfl
      have hlow:lowB (tabI 6 x) n c p = false:=by unfold lowB;rw [show (bt c (p:Int) == 49) = false from hf];rfl
      have hhigh:highB (tabI 6 x) n c p = decide (0 ≤ J.vals n x p):=by unfold highB;rw [show (bt c (p:Int) == 48) = true from by rw [h48];rfl,Bool.true_and,hv]
      have hw:J.wrg (fB c) (J.vals n x) p = decide (0 ≤ J.vals n x p):=by unfold J.wrg;rw [if_neg (by rw [hf];decide)]
      have hsg:J.sgF (fB c) p = -1:=by unfold J.sgF;rw [if_neg (by rw [hf];decide)]
      rw [hlow,hhigh,hw]
      cases decide (0 ≤ J.vals n x p)
      · rfl
      · show ((p:Int),(-1:Int)) = ((p:Int),J.sgF (fB c) p)
        rw [hsg]
/-- The run as the program has it. -/
def stR (c:ByteArray) (n:Nat) (k:Nat):List Int:=tabI 6 (J.run (fB c) n c.size k)
def ptR (c:ByteArray) (n:Nat) (k:Nat):Int:=(((J.fwx (fB c) n c.size (J.run (fB c) n c.size k)).getD 0:Nat):Int)
def sgR (c:ByteArray) (n:Nat) (k:Nat):Int:=J.sgF (fB c) ((J.fwx (fB c) n c.size (J.run (fB c) n c.size k)).getD 0)
theorem run_big (k:Nat) (hk:k ≤ 1000000000) (v:Nat):-1000000000 ≤ J.run (fB c) n c.size k v ∧ J.run (fB c) n c.size k v ≤ 1000000000:=by
  have:=run_bd (fB c) n c.size k v
  omega
theorem st_wr (k:Nat) (hk:k ≤ 1000000000):wrL (stR c n k) n c c.size 0 = match J.fwx (fB c) n c.size (J.run (fB c) n c.size k) with
    | none=>(-1,0)
    | some q=>((q:Int),J.sgF (fB c) q):=wr_fw hT (run_big hT k hk) c.size 0 (by omega)
omit hT in
theorem tab_inj {n:Nat} (hn:n ≤ 5) {x y:Nat → Int} (hx:∀ v,n < v → x v = 0) (hy:∀ v,n < v → y v = 0) (h:tabI 6 x = tabI 6 y):x = y:=by
  funext v
  by_cases hv:v < 6
  · have:=congrArg (fun l=>rd l (v:Int)) h
    simp only [tabI_rd hv] at this
    exact this
  · rw [hx v (by omega),hy v (by omega)]
theorem wg_of {K:Nat} (hK:K ≤ 1000000000) (hnn:∀ j,j < K → J.fwx (fB c) n c.size (J.run (fB c) n c.size j) ≠ none) (hinj:∀ i j,i < j → j < K → J.run (fB c) n c.size i ≠ J.run (fB c) n c.size j):Wg n c (stR c n) (ptR c n) (sgR c n) K:=by
  have hn:=hT.n5
  have hle:=hT.le
  refine ⟨fun i=>tabI_len 6 _,fun i hi x hx=>?_,?_,fun i hi=>?_,fun i j hij hj he=>?_⟩
  · unfold stR tabI at hx
    obtain ⟨v,_,rfl⟩:=List.mem_map.1 hx
    have:=run_big hT i (by omega) v
    exact WalkArith.wf_i64 (by omega)
  · rfl
  · have hw:=st_wr hT i (by omega)
    cases e:J.fwx (fB c) n c.size (J.run (fB c) n c.size i) with
    | none=>exact absurd e (hnn i hi)
    | some q =>
      obtain ⟨_,hq,_⟩:=J.fw_some e
      rw [e] at hw
      unfold ptR sgR
      rw [e]
      refine ⟨hw,Int.natCast_nonneg _,?_⟩
      show stR c n (i + 1) = chV (stR c n i) (q:Int) (J.sgF (fB c) q) n
      unfold stR
      rw [J.run_succ e,chV_tab (run_big hT i (by omega)) (J.sgF_cases (fB c) q) (Nat.lt_of_lt_of_le (show q < 64 by omega) (by decide)) hn,upd_add]
  · exact hinj i j hij hj (tab_inj hn (run_hi _ _ _ _) (run_hi _ _ _ _) he)
theorem ends_at {K:Nat} (hK:K ≤ 1000000000) (hnn:∀ j,j < K → J.fwx (fB c) n c.size (J.run (fB c) n c.size j) ≠ none) (hinj:∀ i j,i < j → j < K → J.run (fB c) n c.size i ≠ J.run (fB c) n c.size j) (he:J.fwx (fB c) n c.size (J.run (fB c) n c.size K) = none):EndsAt n c (stR c n K):=by
  refine ⟨stR c n,ptR c n,sgR c n,K,hK,wg_of hT hK hnn hinj,?_,fun j hj h=>?_,rfl⟩
  · rw [st_wr hT K hK,he]
  · have:=tab_inj hT.n5 (run_hi _ _ _ _) (run_hi _ _ _ _) h
    exact hnn j hj (by rw [this];exact he)
end
end Go.Proofs.Ythpahlkhiknofaa.P
namespace Go.Proofs.Ythpahlkhiknofaa.G
open Go.RowKit Go.Proofs.YthpahlkhiknofaaW.PrintWords Go.Proofs.YthpahlkhiknofaaW.PrintLast Go.Proofs.YthpahlkhiknofaaW.PrintMore
set_option maxHeartbeats 8000000
set_option maxRecDepth 100000
attribute [local go_sem] max2_int min2_int max_two min_two max_three min_three max_four min_four   -- for this text's walks alone
mutual
def card_Monotone.l0:Nat → ByteArray → Int → Int → Int → ByteArray → Option (Int × Int × Int)
 | 0,_,_,_,_,_=>none
 | k + 1,x0,x17,x18,x516000,x516001=>if x18 < x17 then (card_Monotone.l1 k x0 x18 x17 x18 x516000 0 x516000 x516001) else (some ((-1),(-1),0))
def card_Monotone.l1:Nat → ByteArray → Int → Int → Int → Int → Int → Int → ByteArray → Option (Int × Int × Int)
 | 0,_,_,_,_,_,_,_,_=>none
 | k + 1,x0,x7,x17,x18,x22,x23,x516000,x516001=>if x23 < x22 then (if 0 ≤ x23 then (if (Go.bits .and .i64 (shr .i64 x7 x23) 1) = 0 then (if 0 ≤ x7 then (if x7 < (x0.size:Int) then (if (bt x0 x7) = 49 then (if 0 ≤ (Go.bits .or .i64 x7 (shl .i64 1 x23)) then (if (Go.bits .or .i64 x7 (shl .i64 1 x23)) < (x0.size:Int) then (if (bt x0 (Go.bits .or .i64 x7 (shl .i64 1 x23))) = 48 then (some (x7,x23,0)) else (card_Monotone.l1 k x0 x7 x17 x18 x22 (wrap64 (x23 + 1)) x516000 x516001)) else (none)) else (none)) else (card_Monotone.l1 k x0 x7 x17 x18 x22 (wrap64 (x23 + 1)) x516000 x516001)) else (none)) else (none)) else (card_Monotone.l1 k x0 x7 x17 x18 x22 (wrap64 (x23 + 1)) x516000 x516001)) else (none)) else (card_Monotone.l0 k x0 x17 (wrap64 (x18 + 1)) x516000 x516001)
end
def card_Monotone.f (k:Nat) (a0:ByteArray):Option (Int × Int × Int):=(card_newTotal.f a0).bind fun bt512=>(if bt512.2.2 = true then (card_Monotone.l0 k a0 (a0.size:Int) 0 bt512.1 bt512.2.1) else (some (0,0,2)))
theorem card_Monotone.mono_l:∀ k,(∀ y0 y1 y2 y3 y4,LeO (card_Monotone.l0 k y0 y1 y2 y3 y4) (card_Monotone.l0 (k + 1) y0 y1 y2 y3 y4)) ∧ (∀ y0 y1 y2 y3 y4 y5 y6 y7,LeO (card_Monotone.l1 k y0 y1 y2 y3 y4 y5 y6 y7) (card_Monotone.l1 (k + 1) y0 y1 y2 y3 y4 y5 y6 y7))
 | 0=>⟨fun _ _ _ _ _ r h=>by simp [card_Monotone.l0] at h,fun _ _ _ _ _ _ _ _ r h=>by simp [card_Monotone.l1] at h⟩
 | k + 1=>by
  obtain ⟨ih0,ih1⟩:=card_Monotone.mono_l k
  refine ⟨?_,?_⟩
  ·intro y0 y1 y2 y3 y4
   unfold card_Monotone.l0
   repeat' first
   | (with_reducible exact ih0 _ _ _ _ _)
   | (with_reducible exact ih1 _ _ _ _ _ _ _ _)
   | (with_reducible exact LeO.refl _)
   | (with_reducible exact LeO.none _)
   | (with_reducible refine LeO.ite ?_ ?_)
   | (with_reducible refine LeO.bind ?_ (fun _=>?_))
   | exact ih0 _ _ _ _ _
   | exact ih1 _ _ _ _ _ _ _ _
   | exact LeO.none _
   | refine LeO.ite ?_ ?_
   | refine LeO.bind ?_ (fun _=>?_)
  intro y0 y1 y2 y3 y4 y5 y6 y7
  unfold card_Monotone.l1
  repeat' first
  | (with_reducible exact ih0 _ _ _ _ _)
  | (with_reducible exact ih1 _ _ _ _ _ _ _ _)
  | (with_reducible exact LeO.refl _)
  | (with_reducible exact LeO.none _)
  | (with_reducible refine LeO.ite ?_ ?_)
  | (with_reducible refine LeO.bind ?_ (fun _=>?_))
  | exact ih0 _ _ _ _ _
  | exact ih1 _ _ _ _ _ _ _ _
  | exact LeO.none _
  | refine LeO.ite ?_ ?_
  | refine LeO.bind ?_ (fun _=>?_)
theorem card_Monotone.mono:∀ a0 k,LeO (card_Monotone.f k a0) (card_Monotone.f (k + 1) a0):=by
 intro a0 k
 obtain ⟨ih0,ih1⟩:=card_Monotone.mono_l k
 unfold card_Monotone.f
 repeat' first
   | (with_reducible exact ih0 _ _ _ _ _)
   | (with_reducible exact ih1 _ _ _ _ _ _ _ _)
   | (with_reducible exact LeO.refl _)
   | (with_reducible exact LeO.none _)
   | (with_reducible refine LeO.ite ?_ ?_)
   | (with_reducible refine LeO.bind ?_ (fun _=>?_))
   | exact ih0 _ _ _ _ _
   | exact ih1 _ _ _ _ _ _ _ _
   | exact LeO.none _
   | refine LeO.ite ?_ ?_
   | refine LeO.bind ?_ (fun _=>?_)
theorem card_Monotone.calls (k:Nat) (a0:ByteArray) (r1:Int) (r2:Int) (r3:Int) (w:World) (h:card_Monotone.f k a0 = some (r1,r2,r3)) :
  Calls Try.prog 50 #[.string a0] w fun e w'=>e = .returned (.tuple #[.int .i64 r1,.int .i64 r2,.int .i64 r3]) ∧ Below w.heap.size w w':=by
 have hu81:=Try.underlying81
 have HB:=Aside0.mk (Below.refl w.heap.size w)
 have H:((card_newTotal.f a0).bind fun bt512=>(if bt512.2.2 = true then (card_Monotone.l0 k a0 (a0.size:Int) 0 bt512.1 bt512.2.1) else (some (0,0,2)))) = some (r1,r2,r3):=h
 clear h
 replace H:=Option.bind_eq_some_iff.mp H
 obtain ⟨⟨t512,t513,t514⟩,A20,H⟩:=H
 replace H:(if t514 = true then (card_Monotone.l0 k a0 (a0.size:Int) 0 t512 t513) else (some (0,0,2))) = some (r1,r2,r3):=H
 have A2:=Aside0.mk A20
 clear A20
 by_cases c3:t514 = true
 case neg =>
  replace c3:=Bool.eq_false_iff.mpr c3
  subst c3
  have H1:(some (0,0,2)) = some (r1,r2,r3):=by rw [if_neg (show ¬ (false = true) by decide)] at H;exact H
  clear H
  have H:=H1
  clear H1
  simp only [Option.some.injEq,Prod.mk.injEq] at H
  obtain ⟨rfl,rfl,rfl⟩:=H
  go_enter Try.func50,Try.ntmps50
  go_wp2_with (first | ((with_reducible refine gate_callee (f:=58) rfl ?_);refine goesL_ (some 11) rfl rfl Try.func58 (by kernel_rfl) rfl #[.string a0] rfl (by (try simp only [List.map_toArray,List.map_cons,List.map_nil]);first | done | rfl | (simp only [List.length_drop,List.length_take];rfl)) ?_;(with_reducible refine (card_newTotal.calls a0 t512 t513 false _ A2.out).mono ?_);rintro e w23 ⟨rfl,hb⟩;refine ⟨_,rfl,?_⟩;have n0_:=Aside0.mk (below_step (by repeat (first | (with_reducible first | exact HB.out | apply below_alloc | apply pw_below_drewN | apply below_drew1) | exact HB.out)) hb);clear HB;have HB:=n0_;clear n0_;(try clear hb)) | ((with_reducible refine gate_dst (N:=5) rfl ?_);refine box_event ?hg (N:=5) ?hd (cs:=#[.int .i64 0,.string (⟨#[]⟩:ByteArray)]) (t:=81) ?hr ?_;(case hd=>rfl);(case hg=>rfl);(case hr=>first | (go_simp;done) | (go_simp;rfl));intro gb515 hg w24 hbox hb;have n0_:=Aside0.mk (below_step (by repeat (first | (with_reducible first | exact HB.out | apply below_alloc | apply pw_below_drewN | apply below_drew1) | exact HB.out)) hb);have n1_:=Aside0.mk (hbox);have n2_:=Aside0.mk ((by rw [hg];exact (below_size (by repeat (first | (with_reducible first | exact HB.out | apply below_alloc | apply pw_below_drewN | apply below_drew1) | exact HB.out))):w.heap.size ≤ gb515));have n3_:=Aside0.mk ((by rw [hg];exact (below_size (by repeat (first | (with_reducible first | exact HB.out | apply below_alloc | apply pw_below_drewN | apply below_drew1) | exact HB.out))):w.heap.size ≤ gb515));clear HB;have HB:=n0_;have BK515:=n1_;have GW515:=n2_;have GE515:=n3_;clear n0_ n1_ n2_ n3_;clear hb hbox hg;have hcz25_0:w24.cell? ⟨gb515,0,none⟩ = some (.int .i64 0):=(blk_cell BK515.out 0).trans rfl;have hcz25_1:w24.cell? ⟨gb515,1,none⟩ = some (.string (⟨#[]⟩:ByteArray)):=(blk_cell BK515.out 1).trans rfl;have hfz25_0:=blk_frozen BK515.out 0;have hfz25_1:=blk_frozen BK515.out 1))
  go_ret3
  exact ⟨by first | rfl | (simp [errW_none,errW_some] <;> rfl) | (simp [*,errW_none,errW_some] <;> rfl),by repeat (first | (with_reducible first | exact HB.out | apply below_alloc | apply pw_below_drewN | apply below_drew1 | refine below_set ?_ GE515.out) | exact HB.out)⟩
 subst c3
 have H1:(card_Monotone.l0 k a0 (a0.size:Int) 0 t512 t513) = some (r1,r2,r3):=by rw [if_pos rfl] at H;exact H
 clear H
 have H:=H1
 clear H1
 have H':=Aside0.mk H
 clear H
 go_enter Try.func50,Try.ntmps50
 go_wp2_with (first | ((with_reducible refine gate_callee (f:=58) rfl ?_);refine goesL_ (some 11) rfl rfl Try.func58 (by kernel_rfl) rfl #[.string a0] rfl (by (try simp only [List.map_toArray,List.map_cons,List.map_nil]);first | done | rfl | (simp only [List.length_drop,List.length_take];rfl)) ?_;(with_reducible refine (card_newTotal.calls a0 t512 t513 true _ A2.out).mono ?_);rintro e w4 ⟨rfl,hb⟩;refine ⟨_,rfl,?_⟩;have n0_:=Aside0.mk (below_step (by repeat (first | (with_reducible first | exact HB.out | apply below_alloc | apply pw_below_drewN | apply below_drew1) | exact HB.out)) hb);clear HB;have HB:=n0_;clear n0_;(try clear hb)) | ((with_reducible refine gate_dst (N:=5) rfl ?_);refine box_event ?hg (N:=5) ?hd (cs:=#[.int .i64 0,.string (⟨#[]⟩:ByteArray)]) (t:=81) ?hr ?_;(case hd=>rfl);(case hg=>rfl);(case hr=>first | (go_simp;done) | (go_simp;rfl));intro gb515 hg w5 hbox hb;have n0_:=Aside0.mk (below_step (by repeat (first | (with_reducible first | exact HB.out | apply below_alloc | apply pw_below_drewN | apply below_drew1) | exact HB.out)) hb);have n1_:=Aside0.mk (hbox);have n2_:=Aside0.mk ((by rw [hg];exact (below_size (by repeat (first | (with_reducible first | exact HB.out | apply below_alloc | apply pw_below_drewN | apply below_drew1) | exact HB.out))):w.heap.size ≤ gb515));have n3_:=Aside0.mk ((by rw [hg];exact (below_size (by repeat (first | (with_reducible first | exact HB.out | apply below_alloc | apply pw_below_drewN | apply below_drew1) | exact HB.out))):w.heap.size ≤ gb515));clear HB;have HB:=n0_;have BK515:=n1_;have GW515:=n2_;have GE515:=n3_;clear n0_ n1_ n2_ n3_;clear hb hbox hg;have hcz6_0:w5.cell? ⟨gb515,0,none⟩ = some (.int .i64 0):=(blk_cell BK515.out 0).trans rfl;have hcz6_1:w5.cell? ⟨gb515,1,none⟩ = some (.string (⟨#[]⟩:ByteArray)):=(blk_cell BK515.out 1).trans rfl;have hfz6_0:=blk_frozen BK515.out 0;have hfz6_1:=blk_frozen BK515.out 1))
 go_loopg [18] k (fun kq v18 w'=>∃ (x18_1:Int),v18 = .int .i64 x18_1 ∧ Aside0 (card_Monotone.l0 kq a0 (a0.size:Int) x18_1 t512 t513 = some (r1,r2,r3)) ∧ Aside0 (kq ≤ k) ∧ Aside0 (w'.heap[gb515]? = some (.cells #[.int .i64 t512,.string t513] 81 (0,0))) ∧ Aside0 (Below w.heap.size w w'))
 case atStart=>exact ⟨(0),(by first | rfl | (simp;done) | (simp [*];done)),H',⟨Nat.le_refl _⟩,⟨by (with_reducible repeat (first | refine blk_drewN ?_ _ | refine blk_drew ?_ | refine blk_alloc ?_ _));refine blk_put (cs:=#[.int .i64 t512,.string (⟨#[]⟩:ByteArray)]) ?_ 1 _ rfl;(with_reducible repeat (first | refine blk_drewN ?_ _ | refine blk_drew ?_ | refine blk_alloc ?_ _));refine blk_put (cs:=#[.int .i64 0,.string (⟨#[]⟩:ByteArray)]) ?_ 0 _ rfl;(with_reducible repeat (first | refine blk_drewN ?_ _ | refine blk_drew ?_ | refine blk_alloc ?_ _));exact BK515.out⟩,⟨by repeat (first | (with_reducible first | exact HB.out | apply below_alloc | apply pw_below_drewN | apply below_drew1 | refine below_set ?_ GE515.out) | exact HB.out)⟩⟩
 case round =>
  clear H'
  try clear p2
  try clear c3
  try clear c5
  try clear hcz6_0
  try clear hcz6_1
  try clear hfz6_0
  try clear hfz6_1
  obtain ⟨x18_1,rfl,HA,HK1,BK515,HB⟩:=hrel
  cases gk with
  | zero=>exact absurd HA.out (by simp [card_Monotone.l0])
  | succ k1 =>
   have H:=HA.out
   clear HA
   simp only [card_Monotone.l0] at H
   by_cases c7:x18_1 < (a0.size:Int)
   case neg =>
    rw [if_neg c7] at H
    have c7b0:decide (x18_1 < (a0.size:Int)) = false:=decide_eq_false c7
    clear c7
    simp only [Option.some.injEq,Prod.mk.injEq] at H
    obtain ⟨rfl,rfl,rfl⟩:=H
    go_wp2
    go_ret3
    exact ⟨by first | rfl | (simp [errW_none,errW_some] <;> rfl) | (simp [*,errW_none,errW_some] <;> rfl),by repeat (first | (with_reducible first | exact HB.out | apply below_alloc | apply pw_below_drewN | apply below_drew1 | refine below_set ?_ GE515.out) | exact HB.out)⟩
   rw [if_pos c7] at H
   have c7b0:decide (x18_1 < (a0.size:Int)) = true:=decide_eq_true c7
   clear c7
   have H':=Aside0.mk H
   clear H
   have hcz8_0:wr.cell? ⟨gb515,0,none⟩ = some (.int .i64 t512):=(blk_cell BK515.out 0).trans rfl
   have hcz8_1:wr.cell? ⟨gb515,1,none⟩ = some (.string t513):=(blk_cell BK515.out 1).trans rfl
   have hfz8_0:=blk_frozen BK515.out 0
   have hfz8_1:=blk_frozen BK515.out 1
   go_wp2
   go_loopg [23] k1 (fun kq v23 w'=>∃ (x23_2:Int),v23 = .int .i64 x23_2 ∧ Aside0 (card_Monotone.l1 kq a0 x18_1 (a0.size:Int) x18_1 t512 x23_2 t512 t513 = some (r1,r2,r3)) ∧ Aside0 (kq ≤ k1) ∧ Aside0 (w'.heap[gb515]? = some (.cells #[.int .i64 t512,.string t513] 81 (0,0))) ∧ Aside0 (Below w.heap.size w w'))
   case atStart=>exact ⟨(0),(by first | rfl | (simp;done) | (simp [*];done)),H',⟨Nat.le_refl _⟩,⟨by (with_reducible repeat (first | refine blk_drewN ?_ _ | refine blk_drew ?_ | refine blk_alloc ?_ _));exact BK515.out⟩,⟨by repeat (first | (with_reducible first | exact HB.out | apply below_alloc | apply pw_below_drewN | apply below_drew1 | refine below_set ?_ GE515.out) | exact HB.out)⟩⟩
   case round =>
    clear H'
    try clear p2
    try clear c3
    try clear c5
    try clear c7
    try clear c7b0
    try clear hcz6_0
    try clear hcz6_1
    try clear hcz8_0
    try clear hcz8_1
    try clear hfz6_0
    try clear hfz6_1
    try clear hfz8_0
    try clear hfz8_1
    try clear p2
    obtain ⟨x23_2,rfl,HA,HK2,BK515,HB⟩:=hrel
    cases gk with
    | zero=>exact absurd HA.out (by simp [card_Monotone.l1])
    | succ k2 =>
     have H:=HA.out
     clear HA
     simp only [card_Monotone.l1] at H
     by_cases c9:x23_2 < t512
     case neg =>
      rw [if_neg c9] at H
      have c9b0:decide (x23_2 < t512) = false:=decide_eq_false c9
      clear c9
      have H':=Aside0.mk H
      clear H
      go_wp2
      go_roundg k2
      case measure=>have:=HK1.out;have:=HK2.out;omega
      case rel=>exact ⟨(wrap64 (x18_1 + 1)),(by first | rfl | (simp;done) | (simp [*];done)),H',⟨by have:=HK1.out;have:=HK2.out;omega⟩,⟨by (with_reducible repeat (first | refine blk_drewN ?_ _ | refine blk_drew ?_ | refine blk_alloc ?_ _));exact BK515.out⟩,⟨by repeat (first | (with_reducible first | exact HB.out | apply below_alloc | apply pw_below_drewN | apply below_drew1 | refine below_set ?_ GE515.out) | exact HB.out)⟩⟩
     rw [if_pos c9] at H
     have c9b0:decide (x23_2 < t512) = true:=decide_eq_true c9
     clear c9
     by_cases c10:0 ≤ x23_2
     case neg =>
      rw [if_neg c10] at H
      exact absurd H (by simp)
     rw [if_pos c10] at H
     have c10b0:=eq_true c10
     have c10b1:decide (0 ≤ x23_2) = true:=decide_eq_true c10
     clear c10
     obtain ⟨ji11,hji11⟩:∃ j_:Int,(shr .i64 x18_1 x23_2) = j_:=⟨_,rfl⟩
     replace H:(if (Go.bits .and .i64 (ji11) 1) = 0 then (if 0 ≤ x18_1 then (if x18_1 < (a0.size:Int) then (if (bt a0 x18_1) = 49 then (if 0 ≤ (Go.bits .or .i64 x18_1 (shl .i64 1 x23_2)) then (if (Go.bits .or .i64 x18_1 (shl .i64 1 x23_2)) < (a0.size:Int) then (if (bt a0 (Go.bits .or .i64 x18_1 (shl .i64 1 x23_2))) = 48 then (some (x18_1,x23_2,0)) else (card_Monotone.l1 k2 a0 x18_1 (a0.size:Int) x18_1 t512 (wrap64 (x23_2 + 1)) t512 t513)) else (none)) else (none)) else (card_Monotone.l1 k2 a0 x18_1 (a0.size:Int) x18_1 t512 (wrap64 (x23_2 + 1)) t512 t513)) else (none)) else (none)) else (card_Monotone.l1 k2 a0 x18_1 (a0.size:Int) x18_1 t512 (wrap64 (x23_2 + 1)) t512 t513)) = some (r1,r2,r3):=by first | (rw [hji11] at H;exact H) | (simp only [hji11] at H ⊢;exact H)
     have hji11_:(x18_1 / 2 ^ min x23_2.toNat 64) = ji11:=hji11
     have hji11z:x23_2 ≤ 64 → (x18_1 / 2 ^ x23_2.toNat) = ji11:=shr_small hji11
     by_cases c12:(Go.bits .and .i64 (ji11) 1) = 0
     case neg =>
      rw [if_neg c12] at H
      have c12b0:((Go.bits .and .i64 (ji11) 1) == 0) = false:=beq_eq_false_iff_ne.mpr c12
      have c12b1:((Go.bits .and .i64 (ji11) 1) != 0) = true:=bne_iff_ne.mpr c12
      have H':=Aside0.mk H
      clear H
      go_wp2
      go_roundg k2
      case measure=>have:=HK1.out;have:=HK2.out;omega
      case rel=>exact ⟨(wrap64 (x23_2 + 1)),(by first | rfl | (simp;done) | (simp [*];done)),H',⟨by have:=HK1.out;have:=HK2.out;omega⟩,⟨by (with_reducible repeat (first | refine blk_drewN ?_ _ | refine blk_drew ?_ | refine blk_alloc ?_ _));exact BK515.out⟩,⟨by repeat (first | (with_reducible first | exact HB.out | apply below_alloc | apply pw_below_drewN | apply below_drew1 | refine below_set ?_ GE515.out) | exact HB.out)⟩⟩
     rw [if_pos c12] at H
     have c12b0:((Go.bits .and .i64 (ji11) 1) == 0) = true:=beq_iff_eq.mpr c12
     have c12b1:((Go.bits .and .i64 (ji11) 1) != 0) = false:=bne_eq_false_iff_eq.mpr c12
     clear c12
     by_cases c13:0 ≤ x18_1
     case neg =>
      rw [if_neg c13] at H
      exact absurd H (by simp)
     rw [if_pos c13] at H
     have c13b0:decide (0 ≤ x18_1) = true:=decide_eq_true c13
     clear c13
     by_cases c14:x18_1 < (a0.size:Int)
     case neg =>
      rw [if_neg c14] at H
      exact absurd H (by simp)
     rw [if_pos c14] at H
     have c14b0:decide (x18_1 < (a0.size:Int)) = true:=decide_eq_true c14
     clear c14
     by_cases c16:(bt a0 x18_1) = 49
     case neg =>
      rw [if_neg c16] at H
      have c16b0:((bt a0 x18_1) == 49) = false:=beq_eq_false_iff_ne.mpr c16
      have c16b1:((bt a0 x18_1) != 49) = true:=bne_iff_ne.mpr c16
      have H':=Aside0.mk H
      clear H
      have p15:0 ≤ (x18_1:Int):=of_decide_eq_true (by first | (with_reducible assumption) | assumption)
      have q15:x18_1 < (a0.size:Int):=of_decide_eq_true (by first | (with_reducible assumption) | assumption)
      have hx15:=bt_at a0 x18_1
      replace p15:=eq_true p15
      replace q15:=eq_true q15
      go_wp2
      go_roundg k2
      case measure=>have:=HK1.out;have:=HK2.out;omega
      case rel=>exact ⟨(wrap64 (x23_2 + 1)),(by first | rfl | (simp;done) | (simp [*];done)),H',⟨by have:=HK1.out;have:=HK2.out;omega⟩,⟨by (with_reducible repeat (first | refine blk_drewN ?_ _ | refine blk_drew ?_ | refine blk_alloc ?_ _));exact BK515.out⟩,⟨by repeat (first | (with_reducible first | exact HB.out | apply below_alloc | apply pw_below_drewN | apply below_drew1 | refine below_set ?_ GE515.out) | exact HB.out)⟩⟩
     rw [if_pos c16] at H
     have c16b0:((bt a0 x18_1) == 49) = true:=beq_iff_eq.mpr c16
     have c16b1:((bt a0 x18_1) != 49) = false:=bne_eq_false_iff_eq.mpr c16
     clear c16
     have c17b0:=eq_true (of_decide_eq_true (by first | (with_reducible assumption) | assumption):0 ≤ x23_2)
     obtain ⟨ji18,hji18⟩:∃ j_:Int,(shl .i64 1 x23_2) = j_:=⟨_,rfl⟩
     replace H:(if 0 ≤ (Go.bits .or .i64 x18_1 (ji18)) then (if (Go.bits .or .i64 x18_1 (ji18)) < (a0.size:Int) then (if (bt a0 (Go.bits .or .i64 x18_1 (ji18))) = 48 then (some (x18_1,x23_2,0)) else (card_Monotone.l1 k2 a0 x18_1 (a0.size:Int) x18_1 t512 (wrap64 (x23_2 + 1)) t512 t513)) else (none)) else (none)) = some (r1,r2,r3):=by first | (rw [hji18] at H;exact H) | (simp only [hji18] at H ⊢;exact H)
     have hji18_:(IntKind.i64.wrap (1 * 2 ^ min x23_2.toNat 64)) = ji18:=hji18
     have hji18z:x23_2 ≤ 64 → (IntKind.i64.wrap (1 * 2 ^ x23_2.toNat)) = ji18:=shl_small hji18
     have hji18u:(IntKind.i64.wrap (2 ^ min x23_2.toNat 64)) = ji18:=by have h_:=hji18_;rw [Int.one_mul] at h_;exact h_
     have hji18v:x23_2 ≤ 64 → (IntKind.i64.wrap (2 ^ x23_2.toNat)) = ji18:=fun hle_=>by have h_:=hji18z hle_;rw [Int.one_mul] at h_;exact h_
     have hji18y:(wrap64 (1 * 2 ^ min x23_2.toNat 64)) = ji18:=(i64_w _).symm.trans hji18_
     have hji18x:x23_2 ≤ 64 → (wrap64 (1 * 2 ^ x23_2.toNat)) = ji18:=fun h_=>(i64_w _).symm.trans (hji18z h_)
     by_cases c19:0 ≤ (Go.bits .or .i64 x18_1 (ji18))
     case neg =>
      rw [if_neg c19] at H
      exact absurd H (by simp)
     rw [if_pos c19] at H
     have c19b0:decide (0 ≤ (Go.bits .or .i64 x18_1 (ji18))) = true:=decide_eq_true c19
     clear c19
     by_cases c20:(Go.bits .or .i64 x18_1 (ji18)) < (a0.size:Int)
     case neg =>
      rw [if_neg c20] at H
      exact absurd H (by simp)
     rw [if_pos c20] at H
     have c20b0:decide ((Go.bits .or .i64 x18_1 (ji18)) < (a0.size:Int)) = true:=decide_eq_true c20
     clear c20
     by_cases c22:(bt a0 (Go.bits .or .i64 x18_1 (ji18))) = 48
     ·rw [if_pos c22] at H
      have c22b0:((bt a0 (Go.bits .or .i64 x18_1 (ji18))) == 48) = true:=beq_iff_eq.mpr c22
      have c22b1:((bt a0 (Go.bits .or .i64 x18_1 (ji18))) != 48) = false:=bne_eq_false_iff_eq.mpr c22
      clear c22
      simp only [Option.some.injEq,Prod.mk.injEq] at H
      obtain ⟨rfl,rfl,rfl⟩:=H
      have p15:0 ≤ (x18_1:Int):=of_decide_eq_true (by first | (with_reducible assumption) | assumption)
      have q15:x18_1 < (a0.size:Int):=of_decide_eq_true (by first | (with_reducible assumption) | assumption)
      have hx15:=bt_at a0 x18_1
      replace p15:=eq_true p15
      replace q15:=eq_true q15
      have p21:0 ≤ ((Go.bits .or .i64 x18_1 (ji18)):Int):=of_decide_eq_true (by first | (with_reducible assumption) | assumption)
      have q21:(Go.bits .or .i64 x18_1 (ji18)) < (a0.size:Int):=of_decide_eq_true (by first | (with_reducible assumption) | assumption)
      have hx21:=bt_at a0 (Go.bits .or .i64 x18_1 (ji18))
      replace p21:=eq_true p21
      replace q21:=eq_true q21
      go_wp2
      go_ret3
      exact ⟨by first | rfl | (simp [errW_none,errW_some] <;> rfl) | (simp only [← hji11,← hji18];first | rfl | (simp [errW_none,errW_some] <;> rfl)) | (simp [*,errW_none,errW_some] <;> rfl),by repeat (first | (with_reducible first | exact HB.out | apply below_alloc | apply pw_below_drewN | apply below_drew1 | refine below_set ?_ GE515.out) | exact HB.out)⟩
     rw [if_neg c22] at H
     have c22b0:((bt a0 (Go.bits .or .i64 x18_1 (ji18))) == 48) = false:=beq_eq_false_iff_ne.mpr c22
     have c22b1:((bt a0 (Go.bits .or .i64 x18_1 (ji18))) != 48) = true:=bne_iff_ne.mpr c22
     have H':=Aside0.mk H
     clear H
     have p15:0 ≤ (x18_1:Int):=of_decide_eq_true (by first | (with_reducible assumption) | assumption)
     have q15:x18_1 < (a0.size:Int):=of_decide_eq_true (by first | (with_reducible assumption) | assumption)
     have hx15:=bt_at a0 x18_1
     replace p15:=eq_true p15
     replace q15:=eq_true q15
     have p21:0 ≤ ((Go.bits .or .i64 x18_1 (ji18)):Int):=of_decide_eq_true (by first | (with_reducible assumption) | assumption)
     have q21:(Go.bits .or .i64 x18_1 (ji18)) < (a0.size:Int):=of_decide_eq_true (by first | (with_reducible assumption) | assumption)
     have hx21:=bt_at a0 (Go.bits .or .i64 x18_1 (ji18))
     replace p21:=eq_true p21
     replace q21:=eq_true q21
     go_wp2
     go_roundg k2
     case measure=>have:=HK1.out;have:=HK2.out;omega
     case rel=>exact ⟨(wrap64 (x23_2 + 1)),(by first | rfl | (simp;done) | (simp [*];done)),H',⟨by have:=HK1.out;have:=HK2.out;omega⟩,⟨by (with_reducible repeat (first | refine blk_drewN ?_ _ | refine blk_drew ?_ | refine blk_alloc ?_ _));exact BK515.out⟩,⟨by repeat (first | (with_reducible first | exact HB.out | apply below_alloc | apply pw_below_drewN | apply below_drew1 | refine below_set ?_ GE515.out) | exact HB.out)⟩⟩
end Go.Proofs.Ythpahlkhiknofaa.G
set_option linter.unusedSectionVars false
namespace Go.Proofs.Ythpahlkhiknofaa.P
open Go Go.RowKit Go.Proofs.Ythpahlkhiknofaa.M Go.Proofs.Ythpahlkhiknofaa.G
open Go.Proofs.YthpahlkhiknofaaW.PrintWords Go.Proofs.YthpahlkhiknofaaW.PrintMore
theorem str_size (xs:List Int):(strOfNums xs).size = xs.length:=by
  unfold strOfNums
  show (xs.map fun n=>UInt8.ofNat n.toNat).toArray.size = xs.length
  simp
theorem str_bt {xs:List Int} {i:Nat} (h:i < xs.length) (h0:0 ≤ xs[i]) (h1:xs[i] < 256):bt (strOfNums xs) (i:Int) = xs[i]:=by
  have hs:i < (strOfNums xs).size:=by rw [str_size];exact h
  rw [bt_get hs]
  have e:(strOfNums xs)[i] = UInt8.ofNat xs[i].toNat:=by
    show (xs.map fun n=>UInt8.ofNat n.toNat).toArray[i]'(by simpa using h) = _
    simp
  rw [e,UInt8.toNat_ofNat_of_lt' (by show xs[i].toNat < 256;omega)]
  omega
section
variable {c:ByteArray} {n:Nat} (hT:Tot c n)
include hT
theorem pow_small {i:Nat} (hi:i < n):2 ^ i ≤ 16:=by
  have h5:=hT.n5
  have:2 ^ i ≤ 2 ^ 4:=Nat.pow_le_pow_right (by decide) (by omega)
  omega
end
end Go.Proofs.Ythpahlkhiknofaa.P
set_option linter.unusedSectionVars false
namespace Go.Proofs.Ythpahlkhiknofaa.G
open Go.RowKit Go.Proofs.YthpahlkhiknofaaW.PrintWords Go.Proofs.YthpahlkhiknofaaW.PrintLast Go.Proofs.YthpahlkhiknofaaW.PrintMore
set_option maxHeartbeats 8000000
set_option maxRecDepth 100000
attribute [local go_sem] max2_int min2_int max_two min_two max_three min_three max_four min_four   -- for this text's walks alone
def numnahlaw01_mod.f (a0:Int) (a1:Int):Option (Int):=if (IntKind.u64.wrap (a1)) = 0 then (none) else (some (wrap64 (Int.tmod (IntKind.u64.wrap (a0)) (IntKind.u64.wrap (a1)))))
theorem numnahlaw01_mod.calls (a0:Int) (a1:Int) (r:Int) (w:World) (h:numnahlaw01_mod.f a0 a1 = some r) :
  Calls Try.prog 27 #[.int .i64 a0,.int .i64 a1] w fun e w'=>e = .returned (.int .i64 r) ∧ Drawn0 w w':=by
 have H:(if (IntKind.u64.wrap (a1)) = 0 then (none) else (some (wrap64 (Int.tmod (IntKind.u64.wrap (a0)) (IntKind.u64.wrap (a1)))))) = some r:=h
 clear h
 by_cases c3:(IntKind.u64.wrap (a1)) = 0
 ·rw [if_pos c3] at H
  exact absurd H (by simp)
 rw [if_neg c3] at H
 have c3b0:((IntKind.u64.wrap (a1)) == 0) = false:=beq_eq_false_iff_ne.mpr c3
 have c3b1:((IntKind.u64.wrap (a1)) != 0) = true:=bne_iff_ne.mpr c3
 obtain rfl:=Option.some.inj H
 go_enter Try.func27,Try.ntmps27
 go_wp2
 go_ret
 exact ⟨by first | rfl | (simp;done) | (simp [*];done),by repeat (first | exact Drawn0.refl _ | apply Drawn0.step)⟩
end Go.Proofs.Ythpahlkhiknofaa.G
set_option linter.unusedSectionVars false
namespace Go.Proofs.Ythpahlkhiknofaa.P
open Go Go.RowKit Go.Proofs.Ythpahlkhiknofaa.M Go.Proofs.Ythpahlkhiknofaa.G
open Go.Proofs.YthpahlkhiknofaaW.PrintWords Go.Proofs.YthpahlkhiknofaaW.PrintMore
theorem mod_some (x:Int) {n:Int} (h0:0 < n) (h1:n ≤ 9223372036854775807):∃ m,0 ≤ m ∧ m < n ∧ numnahlaw01_mod.f x n = some m:=by
  unfold numnahlaw01_mod.f
  have hn:IntKind.u64.wrap n = n:=by
    obtain ⟨k,rfl⟩:∃ k:Nat,n = (k:Int):=⟨n.toNat,by omega⟩
    exact wrap_u64_nat k (by omega)
  have hx:0 ≤ IntKind.u64.wrap x:=by
    simp only [IntKind.wrap,IntKind.bits,IntKind.signed]
    simp
    omega
  rw [hn,if_neg (by omega),Int.tmod_eq_emod_of_nonneg hx]
  have:=Int.emod_nonneg (IntKind.u64.wrap x) (show n ≠ 0 by omega)
  have:=Int.emod_lt_of_pos (IntKind.u64.wrap x) h0
  exact ⟨_,by omega,by omega,by rw [wrap_id (by omega) (by omega)]⟩
theorem lg_pow {n:Nat} (h1:1 ≤ n) (h5:n ≤ 5):lg (2 ^ n) = n:=by
  rcases (by omega:n = 1 ∨ n = 2 ∨ n = 3 ∨ n = 4 ∨ n = 5) with rfl | rfl | rfl | rfl | rfl <;> decide
/-- A string of the right size with these two characters is a total function. -/
theorem mk_tot {c:ByteArray} {n:Nat} (h1:1 ≤ n) (h5:n ≤ 5) (hs:c.size = 2 ^ n) (hv:∀ p,p < c.size → bt c (p:Int) = 48 ∨ bt c (p:Int) = 49):totB c = true ∧ fnN c = n ∧ c.size ≤ 40:=by
  have h32:2 ^ n ≤ 2 ^ 5:=Nat.pow_le_pow_right (by decide) h5
  have ho:okC c = true:=(allF_iff _ _ _).2 fun j _ hj=>by
    unfold isC
    have:=hv j (by omega)
    exact decide_eq_true (by omega)
  have hf:fnN c = n:=by
    unfold fnN
    rw [if_pos ho,hs,lg_pow h1 h5]
  refine ⟨?_,hf,by omega⟩
  unfold totB
  rw [hf,decide_eq_true (by omega),Bool.true_and]
  exact (allF_iff _ _ _).2 fun j _ hj=>by
    have:=hv j (by omega)
    exact decide_eq_true (by omega)
end Go.Proofs.Ythpahlkhiknofaa.P
set_option linter.unusedSectionVars false
namespace Go.Proofs.Ythpahlkhiknofaa.P
open Go Go.RowKit Go.Proofs.Ythpahlkhiknofaa.M Go.Proofs.Ythpahlkhiknofaa.G Go.Proofs.Ythpahlkhiknofaa.H
open Go.Proofs.YthpahlkhiknofaaW.PrintWords Go.Proofs.YthpahlkhiknofaaW.PrintMore
theorem fitL_of {α:Type} {l:List α} (h:l.length ≤ 100000):fitL l:=by unfold fitL;omega
theorem realize_f {c:ByteArray} (hc:c.size ≤ 40) {l:List Int} (hl:l.length ≤ 1001):card_Realize.f c l = some (if totB c = true then (if l.length = fnN c + 1 ∧ bad60 l = false then (if allF (okR c l (fnN c)) c.size 0 = true then 0 else 10) else 2) else 2):=by
 obtain ⟨m,hm,e⟩:=newT hc
 unfold card_Realize.f
 rw [e,Option.bind_some]
 by_cases h:totB c = true
 ·have hT:=tot_of hc h
  have:=hm h
  subst this
  have h5:=hT.n5
  rw [if_pos ⟨⟨rfl,by show c.size ≤ 1000;omega,fun _=>⟨by show (0:Int) ≤ (fnN c:Int);omega,by show (fnN c:Int) ≤ 5;omega⟩⟩,fitL_of (by omega)⟩,if_pos h]
  congr 1
  show rzV c l ((fnN c:Int)).toNat (totB c) = _
  rw [Int.toNat_natCast,h]
  unfold rzV
  by_cases hg:l.length = fnN c + 1 ∧ bad60 l = false
  ·have hs:=bad_sm hg.2
   have hp:=pad_rd (l:=l) (by omega)
   rw [if_pos ⟨rfl,hg⟩,if_pos hg,rzL_eq h5 hc (B:=1000000) (by decide) (by decide) (fun i hi=>by rw [hp i];exact hs i hi) c.size 0 (by omega)]
   have:allF (okR c (padL l) (fnN c)) c.size 0 = allF (okR c l (fnN c)) c.size 0:=allF_congr fun p _ _=>by
    unfold okR
    rw [wsum_congr hp,hp]
   rw [this]
  ·rw [if_neg (fun h=>hg h.2),if_neg hg]
 ·have h':totB c = false:=by simpa using h
  rw [if_pos ⟨⟨rfl,by show c.size ≤ 1000;omega,fun h2=>absurd h2 h⟩,fitL_of (by omega)⟩,if_neg h]
  congr 1
  show rzV c l m.toNat (totB c) = 2
  rw [h']
  unfold rzV
  rw [if_neg (fun h=>by cases h.1)]
end Go.Proofs.Ythpahlkhiknofaa.P
namespace Go.Proofs.Ythpahlkhiknofaa.G
open Go.RowKit Go.Proofs.YthpahlkhiknofaaW.PrintWords Go.Proofs.YthpahlkhiknofaaW.PrintLast Go.Proofs.YthpahlkhiknofaaW.PrintMore
set_option maxHeartbeats 8000000
set_option maxRecDepth 100000
attribute [local go_sem] max2_int min2_int max_two min_two max_three min_three max_four min_four   -- for this text's walks alone
def numnahlaw01_at.f (l0:List Int) (a1:Int):Option (Int):=if a1 < (l0.length:Int) then (if 0 ≤ a1 then (some (rd l0 a1)) else (none)) else (some 0)
theorem numnahlaw01_at.calls (A0:Option Addr) (c0:Nat) (l0:List Int) (a1:Int) (r:Int) (w:World) (hr0:Kd.C (Kd.int .i64) w A0 l0.length l0) (hc0:l0.length ≤ c0) (h:numnahlaw01_at.f l0 a1 = some r) :
  Calls Try.prog 45 #[.slice A0 l0.length c0,.int .i64 a1] w fun e w'=>e = .returned (.int .i64 r) ∧ Drawn0 w w':=by
 have HR0:=Aside0.mk hr0
 have HC0:=Aside0.mk hc0
 clear hr0 hc0
 have H:(if a1 < (l0.length:Int) then (if 0 ≤ a1 then (some (rd l0 a1)) else (none)) else (some 0)) = some r:=h
 clear h
 by_cases c3:a1 < (l0.length:Int)
 case neg =>
  rw [if_neg c3] at H
  have c3b0:decide (a1 < (l0.length:Int)) = false:=decide_eq_false c3
  clear c3
  obtain rfl:=Option.some.inj H
  go_enter Try.func45,Try.ntmps45
  go_wp2
  go_ret
  exact ⟨by first | rfl | (simp;done) | (simp [*];done),by repeat (first | exact Drawn0.refl _ | apply Drawn0.step)⟩
 rw [if_pos c3] at H
 have c3b0:decide (a1 < (l0.length:Int)) = true:=decide_eq_true c3
 clear c3
 by_cases c4:0 ≤ a1
 case neg =>
  rw [if_neg c4] at H
  exact absurd H (by simp)
 rw [if_pos c4] at H
 have c4b0:decide (0 ≤ a1) = true:=decide_eq_true c4
 clear c4
 obtain rfl:=Option.some.inj H
 have p399:0 ≤ (a1:Int):=of_decide_eq_true (by first | (with_reducible assumption) | assumption)
 have q399:a1 < (l0.length:Int):=of_decide_eq_true (by first | (with_reducible assumption) | assumption)
 obtain ⟨ad399,e399,hx399_0⟩:=Kd.at_int HR0.out a1 p399 q399
 cases e399
 replace p399:=eq_true p399
 replace q399:=eq_true q399
 go_enter Try.func45,Try.ntmps45
 go_wp2
 go_ret
 exact ⟨by first | rfl | (simp;done) | (simp [*];done),by repeat (first | exact Drawn0.refl _ | apply Drawn0.step)⟩
def numnahlaw01_same.l0:Nat → Int → List Int → Int → Option (List Int)
 | 0,_,_,_=>none
 | k + 1,x0,x3,x4=>if x4 < x0 then (if x3.length < 17592186044416 then (numnahlaw01_same.l0 k x0 (x3 ++ [x4]) (wrap64 (x4 + 1))) else (none)) else (some x3)
def numnahlaw01_same.f (k:Nat) (a0:Int):Option (List Int):=numnahlaw01_same.l0 k a0 ([]:List Int) 0
theorem numnahlaw01_same.mono_l:∀ k,(∀ y0 y1 y2,LeO (numnahlaw01_same.l0 k y0 y1 y2) (numnahlaw01_same.l0 (k + 1) y0 y1 y2))
 | 0=>fun _ _ _ r h=>by simp [numnahlaw01_same.l0] at h
 | k + 1=>by
  have ih0:=numnahlaw01_same.mono_l k
  intro y0 y1 y2
  unfold numnahlaw01_same.l0
  repeat' first
  | (with_reducible exact ih0 _ _ _)
  | (with_reducible exact LeO.refl _)
  | (with_reducible exact LeO.none _)
  | (with_reducible refine LeO.ite ?_ ?_)
  | (with_reducible refine LeO.bind ?_ (fun _=>?_))
  | exact ih0 _ _ _
  | exact LeO.none _
  | refine LeO.ite ?_ ?_
  | refine LeO.bind ?_ (fun _=>?_)
theorem numnahlaw01_same.mono:∀ a0 k,LeO (numnahlaw01_same.f k a0) (numnahlaw01_same.f (k + 1) a0):=by
 intro a0 k
 have ih0:=numnahlaw01_same.mono_l k
 unfold numnahlaw01_same.f
 repeat' first
   | (with_reducible exact ih0 _ _ _)
   | (with_reducible exact LeO.refl _)
   | (with_reducible exact LeO.none _)
   | (with_reducible refine LeO.ite ?_ ?_)
   | (with_reducible refine LeO.bind ?_ (fun _=>?_))
   | exact ih0 _ _ _
   | exact LeO.none _
   | refine LeO.ite ?_ ?_
   | refine LeO.bind ?_ (fun _=>?_)
theorem numnahlaw01_same.calls (k:Nat) (a0:Int) (r:List Int) (w:World) (h:numnahlaw01_same.f k a0 = some r) :
  Calls Try.prog 54 #[.int .i64 a0] w fun e w'=>∃ v0_:Value,e = .returned (v0_) ∧ Kd.R (Kd.int .i64) 3 w' w.heap.size (fun _=>True) v0_ r ∧ Below w.heap.size w w':=by
 have HB:=Aside0.mk (Below.refl w.heap.size w)
 have H:(numnahlaw01_same.l0 k a0 ([]:List Int) 0) = some r:=h
 clear h
 have H':=Aside0.mk H
 clear H
 go_enter Try.func54,Try.ntmps54
 go_wp2
 go_loopg [3,4] k (fun kq v3 v4 w'=>∃ (x3_1:List Int) (x4_1:Int),v4 = .int .i64 x4_1 ∧ Aside0 (numnahlaw01_same.l0 kq a0 x3_1 x4_1 = some r) ∧ Aside0 (kq ≤ k) ∧ Aside0 (Kd.R (Kd.int .i64) 3 w' w.heap.size (fun _=>True) v3 x3_1) ∧ Aside0 (Below w.heap.size w w'))
 case atStart=>exact ⟨(([]:List Int)),(0),(by first | rfl | (simp;done) | (simp [*];done)),H',⟨Nat.le_refl _⟩,⟨by first | exact Kd.R_nil _ _ _ _ _ | exact Kd.N_nil _ _ _ _ _ | exact Kd.V_nil _ _ _ _ _ | exact Kd.Q_nil _ _ _ _ _ | exact Kd.S_nil _ _ _ _ _⟩,⟨by repeat (first | (with_reducible first | exact HB.out | apply below_alloc | apply pw_below_drewN | apply below_drew1) | exact HB.out)⟩⟩
 case round =>
  clear H'
  obtain ⟨x3_1,x4_1,rfl,HA,HK1,HO_3,HB⟩:=hrel
  cases gk with
  | zero=>exact absurd HA.out (by simp [numnahlaw01_same.l0])
  | succ k1 =>
   have H:=HA.out
   clear HA
   simp only [numnahlaw01_same.l0] at H
   by_cases c2:x4_1 < a0
   case neg =>
    rw [if_neg c2] at H
    have c2b0:decide (x4_1 < a0) = false:=decide_eq_false c2
    clear c2
    obtain rfl:=Option.some.inj H
    go_wp2
    go_ret
    exact ⟨_,by first | rfl | (simp [errW_none,errW_some] <;> rfl) | (simp [*,errW_none,errW_some] <;> rfl),by (with_reducible repeat (first | apply Kd.R_alloc | apply Kd.R_drewN | apply Kd.R_drew));exact HO_3.out,by repeat (first | (with_reducible first | exact HB.out | apply below_alloc | apply pw_below_drewN | apply below_drew1) | exact HB.out)⟩
   rw [if_pos c2] at H
   have c2b0:decide (x4_1 < a0) = true:=decide_eq_true c2
   clear c2
   by_cases c3:x3_1.length < 17592186044416
   case neg =>
    rw [if_neg c3] at H
    exact absurd H (by simp)
   rw [if_pos c3] at H
   have LMc3:=Aside0.mk c3
   clear c3
   obtain ⟨y550,hy550⟩:∃ y_:List Int,y_ = (x3_1 ++ [x4_1]):=⟨_,rfl⟩
   replace H:(numnahlaw01_same.l0 k1 a0 y550 (wrap64 (x4_1 + 1))) = some r:=by first | (rw [hy550];with_reducible exact H) | (have H2_:=(Option.bind_some _ _).symm.trans H;rw [hy550];with_reducible exact H2_) | (have H2_:=(Option.bind_some _ _).symm.trans H;with_reducible exact H2_) | with_reducible exact H | (rw [hy550];exact H) | exact H
   have Ny550:=Aside0.mk hy550
   clear hy550
   have H':=Aside0.mk H
   clear H
   go_wp2_with (first | ((with_reducible refine gate_builtin (b:=.append) (xs:=#[.tmp 10,.tmp 12]) rfl ?_);at_builtin;refine Kd.R_append (Kd.int .i64) (w0:=w) w.heap.size rfl (.tmp 10) (.tmp 12) 22 3 (.int .i64 0) 8 rfl Try.underlying22 info3 rfl (by decide) (by omega) u3 x3_1 x4_1 [.int .i64 x4_1] (fun _=>True) (fun _=>False) rfl rfl ?aP (fun _ hk=>hk.elim) ?aF ?aO ?aB ?aS ?aL ?_;(case aP=>exact rfl);(case aB=>exact (by repeat (first | (with_reducible first | exact HB.out | apply below_alloc | apply pw_below_drewN | apply below_drew1) | exact HB.out)));(case aF=>exact (fun _ _=>trivial));(case aO=>exact (by (with_reducible repeat (first | apply Kd.R_alloc | apply Kd.R_drewN | apply Kd.R_drew));exact HO_3.out));(case aS=>exact (below_size (by repeat (first | (with_reducible first | exact HB.out | apply below_alloc | apply pw_below_drewN | apply below_drew1) | exact HB.out))));(case aL=>have:=LMc3.out;omega);intro v551 w4 ho hb hg hat;rw [← Ny550.out] at ho;have n0_:=Aside0.mk (hb);have n1_:=Aside0.mk (ho);clear HB;clear HO_3;have HB:=n0_;have HO552:=n1_;clear n0_ n1_;clear ho hb hg hat))
   go_roundg k1
   case measure=>have:=HK1.out;omega
   case rel=>exact ⟨(y550),(wrap64 (x4_1 + 1)),(by first | rfl | (simp;done) | (simp [*];done)),H',⟨by have:=HK1.out;omega⟩,⟨by (with_reducible repeat (first | apply Kd.R_alloc | apply Kd.R_drewN | apply Kd.R_drew));exact HO552.out⟩,⟨by repeat (first | (with_reducible first | exact HB.out | apply below_alloc | apply pw_below_drewN | apply below_drew1) | exact HB.out)⟩⟩
end Go.Proofs.Ythpahlkhiknofaa.G
