/- Several texts, joined. -/
import Derived.WalkKit
import Derived.KernelRfl
import Derived.Test.YthpahlkhiknofaaProg
import Derived.Test.YthpahlkhiknofaaQE2
namespace Go.Proofs.Ythpahlkhiknofaa.G
end Go.Proofs.Ythpahlkhiknofaa.G
set_option linter.unusedVariables false
set_option linter.unusedSimpArgs false
set_option linter.unusedSectionVars false
namespace Go.Proofs.Ythpahlkhiknofaa.P
open Go Go.RowKit Go.Proofs.Ythpahlkhiknofaa.M Go.Proofs.Ythpahlkhiknofaa.G
open Go.Proofs.YthpahlkhiknofaaW.PrintWords Go.Proofs.YthpahlkhiknofaaW.PrintMore
theorem ev_aw:Ev (fun _=>(numnahlaw01_awake.f).bind fun t=>some t) true:=Ev.now _
end Go.Proofs.Ythpahlkhiknofaa.P
namespace Go.Proofs.Ythpahlkhiknofaa.G
open Go.RowKit Go.Proofs.YthpahlkhiknofaaW.PrintWords Go.Proofs.YthpahlkhiknofaaW.PrintLast Go.Proofs.YthpahlkhiknofaaW.PrintMore
set_option maxHeartbeats 8000000
set_option maxRecDepth 100000
attribute [local go_sem] max2_int min2_int max_two min_two max_three min_three max_four min_four   -- for this text's walks alone
def card_within.f (a0:Int) (a1:Int) (a2:Int):Option (Bool):=if a0 ≥ a1 then (some (decide (a0 ≤ a2))) else (some false)
theorem card_within.calls (a0:Int) (a1:Int) (a2:Int) (r:Bool) (w:World) (h:card_within.f a0 a1 a2 = some r) :
  Calls Try.prog 61 #[.int .i64 a0,.int .i64 a1,.int .i64 a2] w fun e w'=>e = .returned (.bool r) ∧ Drawn0 w w':=by
 have H:(if a0 ≥ a1 then (some (decide (a0 ≤ a2))) else (some false)) = some r:=h
 clear h
 by_cases c4:a0 ≥ a1
 ·rw [if_pos c4] at H
  have c4b0:decide (a1 ≤ a0) = true:=decide_eq_true c4
  clear c4
  obtain rfl:=Option.some.inj H
  go_enter Try.func61,Try.ntmps61
  go_wp2
  go_ret
  exact ⟨by first | rfl | (simp;done) | (simp [*];done),by repeat (first | exact Drawn0.refl _ | apply Drawn0.step)⟩
 rw [if_neg c4] at H
 have c4b0:decide (a1 ≤ a0) = false:=decide_eq_false c4
 clear c4
 obtain rfl:=Option.some.inj H
 go_enter Try.func61,Try.ntmps61
 go_wp2
 go_ret
 exact ⟨by first | rfl | (simp;done) | (simp [*];done),by repeat (first | exact Drawn0.refl _ | apply Drawn0.step)⟩
end Go.Proofs.Ythpahlkhiknofaa.G
namespace Go.Proofs.Ythpahlkhiknofaa.G
open Go Go.RowKit Go.Proofs.YthpahlkhiknofaaW.PrintWords
def bits_Len.f (a0:Int):Option Int:=if 0 ≤ a0 ∧ a0 ≤ 18446744073709551615 then some (Lib.bitLen a0.toNat:Int) else none
theorem bits_Len.calls (a0:Int) (r:Int) (w:World) (h:bits_Len.f a0 = some r):Calls Try.prog 94 #[.int .u64 a0] w fun e w'=>e = .returned (.int .i64 r) ∧ Below w.heap.size w w':=by
 unfold bits_Len.f at h
 by_cases hb:0 ≤ a0 ∧ a0 ≤ 18446744073709551615
 case neg =>
  rw [if_neg hb] at h;cases h
 rw [if_pos hb] at h
 obtain rfl:=Option.some.inj h
 refine (Try.bits_Len a0 w hb.1 hb.2).mono fun e w' he=>?_
 obtain ⟨rfl,rfl⟩:=he
 exact ⟨rfl,Below.refl _ _⟩
end Go.Proofs.Ythpahlkhiknofaa.G
namespace Go.Proofs.Ythpahlkhiknofaa.G
open Go.RowKit Go.Proofs.YthpahlkhiknofaaW.PrintWords Go.Proofs.YthpahlkhiknofaaW.PrintLast Go.Proofs.YthpahlkhiknofaaW.PrintMore
set_option maxHeartbeats 8000000
set_option maxRecDepth 100000
attribute [local go_sem] max2_int min2_int max_two min_two max_three min_three max_four min_four   -- for this text's walks alone
def card_newFunction_1.f (a0:Int):Option (Bool):=if a0 = 48 then (some false) else (if a0 = 49 then (some false) else (some (a0 != 45)))
theorem card_newFunction_1.calls (a0:Int) (r:Bool) (w:World) (h:card_newFunction_1.f a0 = some r) :
  Calls Try.prog 96 #[.int .i32 a0] w fun e w'=>e = .returned (.bool r) ∧ Drawn0 w w':=by
 have H:(if a0 = 48 then (some false) else (if a0 = 49 then (some false) else (some (a0 != 45)))) = some r:=h
 clear h
 by_cases c2:a0 = 48
 ·rw [if_pos c2] at H
  have c2b0:(a0 == 48) = true:=beq_iff_eq.mpr c2
  have c2b1:(a0 != 48) = false:=bne_eq_false_iff_eq.mpr c2
  clear c2
  obtain rfl:=Option.some.inj H
  go_enter Try.func96,Try.ntmps96
  go_wp2
  go_ret
  exact ⟨by first | rfl | (simp;done) | (simp [*];done),by repeat (first | exact Drawn0.refl _ | apply Drawn0.step)⟩
 rw [if_neg c2] at H
 have c2b0:(a0 == 48) = false:=beq_eq_false_iff_ne.mpr c2
 have c2b1:(a0 != 48) = true:=bne_iff_ne.mpr c2
 by_cases c3:a0 = 49
 case neg =>
  rw [if_neg c3] at H
  have c3b0:(a0 == 49) = false:=beq_eq_false_iff_ne.mpr c3
  have c3b1:(a0 != 49) = true:=bne_iff_ne.mpr c3
  obtain rfl:=Option.some.inj H
  go_enter Try.func96,Try.ntmps96
  go_wp2
  go_ret
  exact ⟨by first | rfl | (simp;done) | (simp [*];done),by repeat (first | exact Drawn0.refl _ | apply Drawn0.step)⟩
 rw [if_pos c3] at H
 have c3b0:(a0 == 49) = true:=beq_iff_eq.mpr c3
 have c3b1:(a0 != 49) = false:=bne_eq_false_iff_eq.mpr c3
 clear c3
 obtain rfl:=Option.some.inj H
 go_enter Try.func96,Try.ntmps96
 go_wp2
 go_ret
 exact ⟨by first | rfl | (simp;done) | (simp [*];done),by repeat (first | exact Drawn0.refl _ | apply Drawn0.step)⟩
def card_newFunction_1.Pure:Prop:=∀ (a0:Int),(Lit.int .i32 a0).wf = true → card_newFunction_1.f a0 = some true
theorem card_newFunction_1.walk (P:card_newFunction_1.Pure) (a0:Int) (w:World) (w0:(Lit.int .i32 a0).wf = true) :
  Calls Try.prog 96 #[.int .i32 a0] w fun e w'=>e = .returned (.bool true) ∧ Below w.heap.size w w':=by
 have h:=P a0 w0
 refine (card_newFunction_1.calls a0 true w h).mono ?_
 rintro e w' ⟨rfl,hd⟩
 exact ⟨rfl,hd.below⟩
end Go.Proofs.Ythpahlkhiknofaa.G
namespace Go.Proofs.Ythpahlkhiknofaa.P
open Go Go.RowKit Go.Proofs.YthpahlkhiknofaaW.PrintWords
def badN (x:Nat):Bool:=!(decide (x = 48) || decide (x = 49) || decide (x = 45))
theorem get_bt {s:ByteArray} {i:Nat} (h:i < s.size):(s.get! i).toNat = (bt s (i:Int)).toNat:=by
 rw [bt_get h,Int.toNat_natCast]
 congr 1
 show s.data[i]! = s.data[i]
 rw [getElem!_pos]
theorem decode_low {s:ByteArray} {i:Nat} (h:(s.get! i).toNat < 128):Utf8.decode s i = ((s.get! i).toNat,1):=by
 unfold Utf8.decode
 simp only [Nat.add_zero]
 rw [if_pos h]
theorem decode_high {s:ByteArray} {i:Nat} (h:¬ (s.get! i).toNat < 128):128 ≤ (Utf8.decode s i).1:=by
 unfold Utf8.decode
 simp only [Nat.add_zero]
 rw [if_neg h]
 have e:128 ≤ Utf8.runeError:=by decide
 split
 ·split
  ·assumption
  exact e
 split
 ·split
  ·rename_i h2
   rw [Bool.and_eq_true,decide_eq_true_eq] at h2
   show 128 ≤ _
   have:=h2.1
   simp only at this ⊢
   omega
  exact e
 split
 ·split
  ·rename_i h2
   rw [Bool.and_eq_true,decide_eq_true_eq] at h2
   have:=h2.1
   simp only at this ⊢
   omega
  exact e
 exact e
theorem idx_bad (s:ByteArray):∀ f pos,s.size - pos ≤ f → decide (0 ≤ Lib.idxFuncFrom badN true s f pos) = !allF (isC s) (s.size - pos) pos
 | 0,pos,h=>by
  have e:s.size - pos = 0:=by omega
  rw [e];rfl
 | f + 1,pos,h=>by
  rw [Lib.idxFuncFrom]
  by_cases hp:pos < s.size
  case neg =>
   rw [if_neg hp]
   have e:s.size - pos = 0:=by omega
   rw [e];rfl
  rw [if_pos hp]
  obtain ⟨d,hd⟩:∃ d,s.size - pos = d + 1:=⟨s.size - pos - 1,by omega⟩
  have hd2:s.size - (pos + 1) = d:=by omega
  rw [hd,allF]
  have hg:=get_bt hp
  have hr:=bt_range s (pos:Int)
  by_cases hl:(s.get! pos).toNat < 128
  case neg =>
   have h2:=decode_high hl
   have hb:badN (Utf8.decode s pos).1 = true:=by
    unfold badN
    rw [decide_eq_false (by omega),decide_eq_false (by omega),decide_eq_false (by omega)];rfl
   rw [hb,if_pos rfl]
   have hc':isC s pos = false:=by
    unfold isC
    exact decide_eq_false (by omega)
   rw [hc',Bool.false_and]
   exact decide_eq_true (by omega)
  rw [decode_low hl]
  have hb:badN (s.get! pos).toNat = !isC s pos:=by
   unfold badN isC
   rw [hg]
   congr 1
   rw [Bool.eq_iff_iff]
   simp only [Bool.or_eq_true,decide_eq_true_eq]
   omega
  simp only [hb]
  by_cases hc:isC s pos = true
  ·rw [hc,if_neg (by decide),Bool.true_and,idx_bad s f (pos + 1) (by omega),hd2]
  have hc':isC s pos = false:=by simpa using hc
  rw [hc',if_pos (by decide),Bool.false_and]
  exact decide_eq_true (by omega)
end Go.Proofs.Ythpahlkhiknofaa.P
namespace Go.Proofs.Ythpahlkhiknofaa.G
open Go Go.RowKit Go.Proofs.YthpahlkhiknofaaW.PrintWords
def contains96.f (a0:ByteArray):Option Bool:=some (!P.okC a0)
theorem contains96.calls (a0:ByteArray) (r:Bool) (w:World) (h:contains96.f a0 = some r):Calls Try.prog 95 #[.string a0,.func (.func 96) #[] #[]] w fun e w'=>e = .returned (.bool r) ∧ Below w.heap.size w w':=by
 obtain rfl:=Option.some.inj h
 refine (Try.strings_ContainsFunc_grows 96 #[] (enters_of Try.func96 (by kernel_rfl) rfl) P.badN a0 w (fun W x _ _=>?_)).mono fun e w' he=>?_
 ·refine (card_newFunction_1.calls (x:Int) (P.badN x) W ?_).mono fun e w' he=>⟨he.1,he.2.below⟩
  unfold card_newFunction_1.f P.badN
  by_cases h1:x = 48
  ·subst h1;rfl
  by_cases h2:x = 49
  ·subst h2;rfl
  rw [if_neg (by omega),if_neg (by omega),decide_eq_false h1,decide_eq_false h2]
  congr 1
  by_cases h3:x = 45
  ·subst h3;rfl
  rw [decide_eq_false h3]
  have:(x:Int) ≠ 45:=by omega
  simpa using this
 obtain ⟨rfl,hb⟩:=he
 refine ⟨?_,hb⟩
 have:=P.idx_bad a0 a0.size 0 (by omega)
 unfold Lib.idxFunc
 rw [this];rfl
end Go.Proofs.Ythpahlkhiknofaa.G
namespace Go.Proofs.Ythpahlkhiknofaa.G
open Go.RowKit Go.Proofs.YthpahlkhiknofaaW.PrintWords Go.Proofs.YthpahlkhiknofaaW.PrintLast Go.Proofs.YthpahlkhiknofaaW.PrintMore
set_option maxHeartbeats 8000000
set_option maxRecDepth 100000
attribute [local go_sem] max2_int min2_int max_two min_two max_three min_three max_four min_four   -- for this text's walks alone
def card_newFunction.f (a0:ByteArray):Option (Int × ByteArray × Bool):=(bits_Len.f (IntKind.u64.wrap ((a0.size:Int)))).bind fun t110=>((card_within.f (wrap64 (t110 - 1)) 1 5).bind fun t111=>(if t111 = true then (if 0 ≤ (wrap64 (t110 - 1)) then (if (a0.size:Int) = (shl .i64 1 (wrap64 (t110 - 1))) then ((contains96.f a0).bind fun t112=>(some (wrap64 (t110 - 1),a0,!t112))) else (some (wrap64 (t110 - 1),a0,false))) else (none)) else (some (wrap64 (t110 - 1),a0,false))))
theorem card_newFunction.calls (a0:ByteArray) (r1:Int) (r2:ByteArray) (r3:Bool) (w:World) (h:card_newFunction.f a0 = some (r1,r2,r3)) :
  Calls Try.prog 65 #[.string a0] w fun e w'=>e = .returned (.tuple #[.agg #[.int .i64 r1,.string r2],.bool r3]) ∧ Below w.heap.size w w':=by
 have hu81:=Try.underlying81
 have HB:=Aside0.mk (Below.refl w.heap.size w)
 have H:((bits_Len.f (IntKind.u64.wrap ((a0.size:Int)))).bind fun t110=>((card_within.f (wrap64 (t110 - 1)) 1 5).bind fun t111=>(if t111 = true then (if 0 ≤ (wrap64 (t110 - 1)) then (if (a0.size:Int) = (shl .i64 1 (wrap64 (t110 - 1))) then ((contains96.f a0).bind fun t112=>(some (wrap64 (t110 - 1),a0,!t112))) else (some (wrap64 (t110 - 1),a0,false))) else (none)) else (some (wrap64 (t110 - 1),a0,false))))) = some (r1,r2,r3):=h
 clear h
 replace H:=Option.bind_eq_some_iff.mp H
 obtain ⟨t110,A20,H⟩:=H
 replace H:((card_within.f (wrap64 (t110 - 1)) 1 5).bind fun t111=>(if t111 = true then (if 0 ≤ (wrap64 (t110 - 1)) then (if (a0.size:Int) = (shl .i64 1 (wrap64 (t110 - 1))) then ((contains96.f a0).bind fun t112=>(some (wrap64 (t110 - 1),a0,!t112))) else (some (wrap64 (t110 - 1),a0,false))) else (none)) else (some (wrap64 (t110 - 1),a0,false)))) = some (r1,r2,r3):=H
 have A2:=Aside0.mk A20
 clear A20
 replace H:=Option.bind_eq_some_iff.mp H
 obtain ⟨t111,A30,H⟩:=H
 replace H:(if t111 = true then (if 0 ≤ (wrap64 (t110 - 1)) then (if (a0.size:Int) = (shl .i64 1 (wrap64 (t110 - 1))) then ((contains96.f a0).bind fun t112=>(some (wrap64 (t110 - 1),a0,!t112))) else (some (wrap64 (t110 - 1),a0,false))) else (none)) else (some (wrap64 (t110 - 1),a0,false))) = some (r1,r2,r3):=H
 have A3:=Aside0.mk A30
 clear A30
 by_cases c4:t111 = true
 case neg =>
  replace c4:=Bool.eq_false_iff.mpr c4
  subst c4
  have H1:(some (wrap64 (t110 - 1),a0,false)) = some (r1,r2,r3):=by rw [if_neg (show ¬ (false = true) by decide)] at H;exact H
  clear H
  have H:=H1
  clear H1
  simp only [Option.some.injEq,Prod.mk.injEq] at H
  obtain ⟨rfl,rfl,rfl⟩:=H
  go_enter Try.func65,Try.ntmps65
  go_wp2_with (first | ((with_reducible refine gate_dst (N:=2) rfl ?_);(try (refine gate_guard (by rfl) ?_;dsimp only));refine box_event ?hg (N:=2) ?hd (cs:=#[.int .i64 0,.string (⟨#[]⟩:ByteArray)]) (t:=81) ?hr ?_;(case hd=>rfl);(case hg=>rfl);(case hr=>first | (go_simp;done) | (go_simp;rfl));intro gb109 hg w17 hbox hb;have n0_:=Aside0.mk (below_step (by repeat (first | (with_reducible first | exact HB.out | apply below_alloc | apply pw_below_drewN | apply below_drew1) | exact HB.out)) hb);have n1_:=Aside0.mk (hbox);have n2_:=Aside0.mk ((by rw [hg];exact (below_size (by repeat (first | (with_reducible first | exact HB.out | apply below_alloc | apply pw_below_drewN | apply below_drew1) | exact HB.out))):w.heap.size ≤ gb109));have n3_:=Aside0.mk ((by rw [hg];exact (below_size (by repeat (first | (with_reducible first | exact HB.out | apply below_alloc | apply pw_below_drewN | apply below_drew1) | exact HB.out))):w.heap.size ≤ gb109));clear HB;have HB:=n0_;have BK109:=n1_;have GW109:=n2_;have GE109:=n3_;clear n0_ n1_ n2_ n3_;clear hb hbox hg) | ((with_reducible refine gate_callee (f:=94) rfl ?_);refine goesL_ (some 9) rfl rfl Try.func94 (by kernel_rfl) rfl #[.int .u64 (IntKind.u64.wrap ((a0.size:Int)))] rfl (by (try simp only [List.map_toArray,List.map_cons,List.map_nil]);first | done | rfl | (simp only [List.length_drop,List.length_take];rfl)) ?_;(with_reducible refine (bits_Len.calls (IntKind.u64.wrap ((a0.size:Int))) t110 _ A2.out).mono ?_);rintro e w18 ⟨rfl,hb⟩;refine ⟨_,rfl,?_⟩;have n0_:=Aside0.mk (blk_below (g:=gb109) (o:=.cells #[.int .i64 0,.string (⟨#[]⟩:ByteArray)] 81 (0,0)) (by (with_reducible repeat (first | refine blk_drewN ?_ _ | refine blk_drew ?_ | refine blk_alloc ?_ _));exact BK109.out) hb);have n1_:=Aside0.mk (below_step (by repeat (first | (with_reducible first | exact HB.out | apply below_alloc | apply pw_below_drewN | apply below_drew1 | refine below_set ?_ GE109.out) | exact HB.out)) hb);clear BK109;clear HB;have BK109:=n0_;have HB:=n1_;clear n0_ n1_;(try clear hb)) | ((with_reducible refine gate_callee (f:=61) rfl ?_);refine goesL_ (some 12) rfl rfl Try.func61 (by kernel_rfl) rfl #[.int .i64 (wrap64 (t110 - 1)),.int .i64 1,.int .i64 5] rfl (by (try simp only [List.map_toArray,List.map_cons,List.map_nil]);first | done | rfl | (simp only [List.length_drop,List.length_take];rfl)) ?_;(with_reducible refine (card_within.calls (wrap64 (t110 - 1)) 1 5 false _ A3.out).mono ?_);rintro e w' ⟨rfl,⟨nd,rfl⟩⟩;refine ⟨_,rfl,?_⟩;(try (rw [drewN_self w18];generalize hq_:World.drewN w18 _ = w18;have n0_:Aside0 (w18.heap[gb109]? = some (.cells #[.int .i64 0,.string (⟨#[]⟩:ByteArray)] 81 (0,0))):=⟨by rw [← hq_];exact (by (with_reducible repeat (first | refine blk_drewN ?_ _ | refine blk_drew ?_ | refine blk_alloc ?_ _));exact BK109.out)⟩;have n1_:Aside0 (Below w.heap.size w w18):=⟨by rw [← hq_];exact (by repeat (first | (with_reducible first | exact HB.out | apply below_alloc | apply pw_below_drewN | apply below_drew1 | refine below_set ?_ GE109.out) | exact HB.out))⟩;clear BK109 HB hq_;have BK109:=n0_;have HB:=n1_;clear n0_ n1_));have hcz19_0:w18.cell? ⟨gb109,0,none⟩ = some (.int .i64 0):=(blk_cell BK109.out 0).trans rfl;have hcz19_1:w18.cell? ⟨gb109,1,none⟩ = some (.string (⟨#[]⟩:ByteArray)):=(blk_cell BK109.out 1).trans rfl;have hfz19_0:=blk_frozen BK109.out 0;have hfz19_1:=blk_frozen BK109.out 1))
  refine bodyPost_ret (results_ct rfl _ _ gb109 81 #[.int .i64 (wrap64 (t110 - 1)),.string a0] (0,0) _ rfl (by (with_reducible repeat (first | refine blk_drewN ?_ _ | refine blk_drew ?_ | refine blk_alloc ?_ _));refine blk_put (cs:=#[.int .i64 (wrap64 (t110 - 1)),.string (⟨#[]⟩:ByteArray)]) ?_ 1 _ rfl;(with_reducible repeat (first | refine blk_drewN ?_ _ | refine blk_drew ?_ | refine blk_alloc ?_ _));refine blk_put (cs:=#[.int .i64 0,.string (⟨#[]⟩:ByteArray)]) ?_ 0 _ rfl;(with_reducible repeat (first | refine blk_drewN ?_ _ | refine blk_drew ?_ | refine blk_alloc ?_ _));exact BK109.out) Try.underlying81 rfl (by kernel_rfl)) rfl ?_
  exact ⟨by first | rfl | (simp [errW_none,errW_some] <;> rfl) | (simp [*,errW_none,errW_some] <;> rfl),by repeat (first | (with_reducible first | exact HB.out | apply below_alloc | apply pw_below_drewN | apply below_drew1 | refine below_set ?_ GE109.out) | exact HB.out)⟩
 subst c4
 have H1:(if 0 ≤ (wrap64 (t110 - 1)) then (if (a0.size:Int) = (shl .i64 1 (wrap64 (t110 - 1))) then ((contains96.f a0).bind fun t112=>(some (wrap64 (t110 - 1),a0,!t112))) else (some (wrap64 (t110 - 1),a0,false))) else (none)) = some (r1,r2,r3):=by rw [if_pos rfl] at H;exact H
 clear H
 have H:=H1
 clear H1
 obtain ⟨ji5,hji5⟩:∃ j_:Int,(wrap64 (t110 - 1)) = j_:=⟨_,rfl⟩
 replace H:(if 0 ≤ (ji5) then (if (a0.size:Int) = (shl .i64 1 (ji5)) then ((contains96.f a0).bind fun t112=>(some (ji5,a0,!t112))) else (some (ji5,a0,false))) else (none)) = some (r1,r2,r3):=by first | (rw [hji5] at H;exact H) | (simp only [hji5] at H ⊢;exact H)
 (try rw [hji5] at A2)
 (try rw [hji5] at A3)
 have hji5w:(IntKind.i64.wrap (t110 - 1)) = ji5:=(i64_w _).trans hji5
 by_cases c6:0 ≤ (ji5)
 case neg =>
  rw [if_neg c6] at H
  exact absurd H (by simp)
 rw [if_pos c6] at H
 have c6b0:=eq_true c6
 have c6b1:decide (0 ≤ (ji5)) = true:=decide_eq_true c6
 clear c6
 obtain ⟨ji7,hji7⟩:∃ j_:Int,(shl .i64 1 (ji5)) = j_:=⟨_,rfl⟩
 replace H:(if (a0.size:Int) = (ji7) then ((contains96.f a0).bind fun t112=>(some (ji5,a0,!t112))) else (some (ji5,a0,false))) = some (r1,r2,r3):=by first | (rw [hji7] at H;exact H) | (simp only [hji7] at H ⊢;exact H)
 (try rw [hji7] at A2)
 (try rw [hji7] at A3)
 have hji7_:(IntKind.i64.wrap (1 * 2 ^ min (ji5).toNat 64)) = ji7:=hji7
 have hji7z:(ji5) ≤ 64 → (IntKind.i64.wrap (1 * 2 ^ (ji5).toNat)) = ji7:=shl_small hji7
 have hji7u:(IntKind.i64.wrap (2 ^ min (ji5).toNat 64)) = ji7:=by have h_:=hji7_;rw [Int.one_mul] at h_;exact h_
 have hji7v:(ji5) ≤ 64 → (IntKind.i64.wrap (2 ^ (ji5).toNat)) = ji7:=fun hle_=>by have h_:=hji7z hle_;rw [Int.one_mul] at h_;exact h_
 have hji7y:(wrap64 (1 * 2 ^ min (ji5).toNat 64)) = ji7:=(i64_w _).symm.trans hji7_
 have hji7x:(ji5) ≤ 64 → (wrap64 (1 * 2 ^ (ji5).toNat)) = ji7:=fun h_=>(i64_w _).symm.trans (hji7z h_)
 by_cases c8:(a0.size:Int) = (ji7)
 case neg =>
  rw [if_neg c8] at H
  have c8b0:((a0.size:Int) == (ji7)) = false:=beq_eq_false_iff_ne.mpr c8
  have c8b1:((a0.size:Int) != (ji7)) = true:=bne_iff_ne.mpr c8
  simp only [Option.some.injEq,Prod.mk.injEq] at H
  obtain ⟨rfl,rfl,rfl⟩:=H
  go_enter Try.func65,Try.ntmps65
  go_wp2_with (first | ((with_reducible refine gate_dst (N:=2) rfl ?_);(try (refine gate_guard (by rfl) ?_;dsimp only));refine box_event ?hg (N:=2) ?hd (cs:=#[.int .i64 0,.string (⟨#[]⟩:ByteArray)]) (t:=81) ?hr ?_;(case hd=>rfl);(case hg=>rfl);(case hr=>first | (go_simp;done) | (go_simp;rfl));intro gb109 hg w14 hbox hb;have n0_:=Aside0.mk (below_step (by repeat (first | (with_reducible first | exact HB.out | apply below_alloc | apply pw_below_drewN | apply below_drew1) | exact HB.out)) hb);have n1_:=Aside0.mk (hbox);have n2_:=Aside0.mk ((by rw [hg];exact (below_size (by repeat (first | (with_reducible first | exact HB.out | apply below_alloc | apply pw_below_drewN | apply below_drew1) | exact HB.out))):w.heap.size ≤ gb109));have n3_:=Aside0.mk ((by rw [hg];exact (below_size (by repeat (first | (with_reducible first | exact HB.out | apply below_alloc | apply pw_below_drewN | apply below_drew1) | exact HB.out))):w.heap.size ≤ gb109));clear HB;have HB:=n0_;have BK109:=n1_;have GW109:=n2_;have GE109:=n3_;clear n0_ n1_ n2_ n3_;clear hb hbox hg) | ((with_reducible refine gate_callee (f:=94) rfl ?_);refine goesL_ (some 9) rfl rfl Try.func94 (by kernel_rfl) rfl #[.int .u64 (IntKind.u64.wrap ((a0.size:Int)))] rfl (by (try simp only [List.map_toArray,List.map_cons,List.map_nil]);first | done | rfl | (simp only [List.length_drop,List.length_take];rfl)) ?_;(with_reducible refine (bits_Len.calls (IntKind.u64.wrap ((a0.size:Int))) t110 _ A2.out).mono ?_);rintro e w15 ⟨rfl,hb⟩;refine ⟨_,rfl,?_⟩;have n0_:=Aside0.mk (blk_below (g:=gb109) (o:=.cells #[.int .i64 0,.string (⟨#[]⟩:ByteArray)] 81 (0,0)) (by (with_reducible repeat (first | refine blk_drewN ?_ _ | refine blk_drew ?_ | refine blk_alloc ?_ _));exact BK109.out) hb);have n1_:=Aside0.mk (below_step (by repeat (first | (with_reducible first | exact HB.out | apply below_alloc | apply pw_below_drewN | apply below_drew1 | refine below_set ?_ GE109.out) | exact HB.out)) hb);clear BK109;clear HB;have BK109:=n0_;have HB:=n1_;clear n0_ n1_;(try clear hb)) | ((with_reducible refine gate_callee (f:=61) rfl ?_);refine goesL_ (some 12) rfl rfl Try.func61 (by kernel_rfl) rfl #[.int .i64 ji5,.int .i64 1,.int .i64 5] rfl (by (try simp only [List.map_toArray,List.map_cons,List.map_nil]);first | done | (simp only [hji5];rfl) | rfl | (simp only [List.length_drop,List.length_take];rfl)) ?_;(with_reducible refine (card_within.calls ji5 1 5 true _ A3.out).mono ?_);rintro e w' ⟨rfl,⟨nd,rfl⟩⟩;refine ⟨_,rfl,?_⟩;(try (rw [drewN_self w15];generalize hq_:World.drewN w15 _ = w15;have n0_:Aside0 (w15.heap[gb109]? = some (.cells #[.int .i64 0,.string (⟨#[]⟩:ByteArray)] 81 (0,0))):=⟨by rw [← hq_];exact (by (with_reducible repeat (first | refine blk_drewN ?_ _ | refine blk_drew ?_ | refine blk_alloc ?_ _));exact BK109.out)⟩;have n1_:Aside0 (Below w.heap.size w w15):=⟨by rw [← hq_];exact (by repeat (first | (with_reducible first | exact HB.out | apply below_alloc | apply pw_below_drewN | apply below_drew1 | refine below_set ?_ GE109.out) | exact HB.out))⟩;clear BK109 HB hq_;have BK109:=n0_;have HB:=n1_;clear n0_ n1_));have hcz16_0:w15.cell? ⟨gb109,0,none⟩ = some (.int .i64 0):=(blk_cell BK109.out 0).trans rfl;have hcz16_1:w15.cell? ⟨gb109,1,none⟩ = some (.string (⟨#[]⟩:ByteArray)):=(blk_cell BK109.out 1).trans rfl;have hfz16_0:=blk_frozen BK109.out 0;have hfz16_1:=blk_frozen BK109.out 1))
  refine bodyPost_ret (results_ct rfl _ _ gb109 81 #[.int .i64 ji5,.string a0] (0,0) _ rfl (by (with_reducible repeat (first | refine blk_drewN ?_ _ | refine blk_drew ?_ | refine blk_alloc ?_ _));refine blk_put (cs:=#[.int .i64 ji5,.string (⟨#[]⟩:ByteArray)]) ?_ 1 _ rfl;(with_reducible repeat (first | refine blk_drewN ?_ _ | refine blk_drew ?_ | refine blk_alloc ?_ _));refine blk_put (cs:=#[.int .i64 0,.string (⟨#[]⟩:ByteArray)]) ?_ 0 _ rfl;(with_reducible repeat (first | refine blk_drewN ?_ _ | refine blk_drew ?_ | refine blk_alloc ?_ _));exact BK109.out) Try.underlying81 rfl (by kernel_rfl)) rfl ?_
  exact ⟨by first | rfl | (simp [errW_none,errW_some] <;> rfl) | (simp only [← hji5,← hji7];first | rfl | (simp [errW_none,errW_some] <;> rfl)) | (simp [*,errW_none,errW_some] <;> rfl),by repeat (first | (with_reducible first | exact HB.out | apply below_alloc | apply pw_below_drewN | apply below_drew1 | refine below_set ?_ GE109.out) | exact HB.out)⟩
 rw [if_pos c8] at H
 have c8b0:((a0.size:Int) == (ji7)) = true:=beq_iff_eq.mpr c8
 have c8b1:((a0.size:Int) != (ji7)) = false:=bne_eq_false_iff_eq.mpr c8
 clear c8
 replace H:=Option.bind_eq_some_iff.mp H
 obtain ⟨t112,A90,H⟩:=H
 replace H:(some (ji5,a0,!t112)) = some (r1,r2,r3):=H
 have A9:=Aside0.mk A90
 clear A90
 simp only [Option.some.injEq,Prod.mk.injEq] at H
 obtain ⟨rfl,rfl,rfl⟩:=H
 go_enter Try.func65,Try.ntmps65
 go_wp2_with (first | ((with_reducible refine gate_dst (N:=2) rfl ?_);(try (refine gate_guard (by rfl) ?_;dsimp only));refine box_event ?hg (N:=2) ?hd (cs:=#[.int .i64 0,.string (⟨#[]⟩:ByteArray)]) (t:=81) ?hr ?_;(case hd=>rfl);(case hg=>rfl);(case hr=>first | (go_simp;done) | (go_simp;rfl));intro gb109 hg w10 hbox hb;have n0_:=Aside0.mk (below_step (by repeat (first | (with_reducible first | exact HB.out | apply below_alloc | apply pw_below_drewN | apply below_drew1) | exact HB.out)) hb);have n1_:=Aside0.mk (hbox);have n2_:=Aside0.mk ((by rw [hg];exact (below_size (by repeat (first | (with_reducible first | exact HB.out | apply below_alloc | apply pw_below_drewN | apply below_drew1) | exact HB.out))):w.heap.size ≤ gb109));have n3_:=Aside0.mk ((by rw [hg];exact (below_size (by repeat (first | (with_reducible first | exact HB.out | apply below_alloc | apply pw_below_drewN | apply below_drew1) | exact HB.out))):w.heap.size ≤ gb109));clear HB;have HB:=n0_;have BK109:=n1_;have GW109:=n2_;have GE109:=n3_;clear n0_ n1_ n2_ n3_;clear hb hbox hg) | ((with_reducible refine gate_callee (f:=94) rfl ?_);refine goesL_ (some 9) rfl rfl Try.func94 (by kernel_rfl) rfl #[.int .u64 (IntKind.u64.wrap ((a0.size:Int)))] rfl (by (try simp only [List.map_toArray,List.map_cons,List.map_nil]);first | done | rfl | (simp only [List.length_drop,List.length_take];rfl)) ?_;(with_reducible refine (bits_Len.calls (IntKind.u64.wrap ((a0.size:Int))) t110 _ A2.out).mono ?_);rintro e w11 ⟨rfl,hb⟩;refine ⟨_,rfl,?_⟩;have n0_:=Aside0.mk (blk_below (g:=gb109) (o:=.cells #[.int .i64 0,.string (⟨#[]⟩:ByteArray)] 81 (0,0)) (by (with_reducible repeat (first | refine blk_drewN ?_ _ | refine blk_drew ?_ | refine blk_alloc ?_ _));exact BK109.out) hb);have n1_:=Aside0.mk (below_step (by repeat (first | (with_reducible first | exact HB.out | apply below_alloc | apply pw_below_drewN | apply below_drew1 | refine below_set ?_ GE109.out) | exact HB.out)) hb);clear BK109;clear HB;have BK109:=n0_;have HB:=n1_;clear n0_ n1_;(try clear hb)) | ((with_reducible refine gate_callee (f:=61) rfl ?_);refine goesL_ (some 12) rfl rfl Try.func61 (by kernel_rfl) rfl #[.int .i64 ji5,.int .i64 1,.int .i64 5] rfl (by (try simp only [List.map_toArray,List.map_cons,List.map_nil]);first | done | (simp only [hji5];rfl) | rfl | (simp only [List.length_drop,List.length_take];rfl)) ?_;(with_reducible refine (card_within.calls ji5 1 5 true _ A3.out).mono ?_);rintro e w' ⟨rfl,⟨nd,rfl⟩⟩;refine ⟨_,rfl,?_⟩;(try (rw [drewN_self w11];generalize hq_:World.drewN w11 _ = w11;have n0_:Aside0 (w11.heap[gb109]? = some (.cells #[.int .i64 0,.string (⟨#[]⟩:ByteArray)] 81 (0,0))):=⟨by rw [← hq_];exact (by (with_reducible repeat (first | refine blk_drewN ?_ _ | refine blk_drew ?_ | refine blk_alloc ?_ _));exact BK109.out)⟩;have n1_:Aside0 (Below w.heap.size w w11):=⟨by rw [← hq_];exact (by repeat (first | (with_reducible first | exact HB.out | apply below_alloc | apply pw_below_drewN | apply below_drew1 | refine below_set ?_ GE109.out) | exact HB.out))⟩;clear BK109 HB hq_;have BK109:=n0_;have HB:=n1_;clear n0_ n1_))) | (go_at_call 95;(with_reducible refine (contains96.calls a0 t112 _ A9.out).mono ?_);rintro e w12 ⟨rfl,hb⟩;have n0_:=Aside0.mk (blk_below (g:=gb109) (o:=.cells #[.int .i64 0,.string (⟨#[]⟩:ByteArray)] 81 (0,0)) (by (with_reducible repeat (first | refine blk_drewN ?_ _ | refine blk_drew ?_ | refine blk_alloc ?_ _));exact BK109.out) hb);have n1_:=Aside0.mk (below_step (by repeat (first | (with_reducible first | exact HB.out | apply below_alloc | apply pw_below_drewN | apply below_drew1 | refine below_set ?_ GE109.out) | exact HB.out)) hb);clear BK109;clear HB;have BK109:=n0_;have HB:=n1_;clear n0_ n1_;(try clear hb);have hcz13_0:w12.cell? ⟨gb109,0,none⟩ = some (.int .i64 0):=(blk_cell BK109.out 0).trans rfl;have hcz13_1:w12.cell? ⟨gb109,1,none⟩ = some (.string (⟨#[]⟩:ByteArray)):=(blk_cell BK109.out 1).trans rfl;have hfz13_0:=blk_frozen BK109.out 0;have hfz13_1:=blk_frozen BK109.out 1))
 refine bodyPost_ret (results_ct rfl _ _ gb109 81 #[.int .i64 ji5,.string a0] (0,0) _ rfl (by (with_reducible repeat (first | refine blk_drewN ?_ _ | refine blk_drew ?_ | refine blk_alloc ?_ _));refine blk_put (cs:=#[.int .i64 ji5,.string (⟨#[]⟩:ByteArray)]) ?_ 1 _ rfl;(with_reducible repeat (first | refine blk_drewN ?_ _ | refine blk_drew ?_ | refine blk_alloc ?_ _));refine blk_put (cs:=#[.int .i64 0,.string (⟨#[]⟩:ByteArray)]) ?_ 0 _ rfl;(with_reducible repeat (first | refine blk_drewN ?_ _ | refine blk_drew ?_ | refine blk_alloc ?_ _));exact BK109.out) Try.underlying81 rfl (by kernel_rfl)) rfl ?_
 exact ⟨by first | rfl | (simp [errW_none,errW_some] <;> rfl) | (simp only [← hji5,← hji7];first | rfl | (simp [errW_none,errW_some] <;> rfl)) | (simp [*,errW_none,errW_some] <;> rfl),by repeat (first | (with_reducible first | exact HB.out | apply below_alloc | apply pw_below_drewN | apply below_drew1 | refine below_set ?_ GE109.out) | exact HB.out)⟩
end Go.Proofs.Ythpahlkhiknofaa.G
set_option linter.unusedSectionVars false
namespace Go.Proofs.Ythpahlkhiknofaa.P
open Go Go.RowKit Go.Proofs.Ythpahlkhiknofaa.M Go.Proofs.Ythpahlkhiknofaa.G
open Go.Proofs.YthpahlkhiknofaaW.PrintWords Go.Proofs.YthpahlkhiknofaaW.PrintMore
def lg (s:Nat):Nat:=if s = 2 then 1 else if s = 4 then 2 else if s = 8 then 3 else if s = 16 then 4 else if s = 32 then 5 else 0
theorem lg_table:∀ s:Fin 41,(lg s.val = 0 → ¬ (2 ≤ Lib.bitLen s.val ∧ Lib.bitLen s.val ≤ 6 ∧ s.val = 2 ^ (Lib.bitLen s.val - 1))) ∧ (lg s.val ≠ 0 → Lib.bitLen s.val = lg s.val + 1 ∧ s.val = 2 ^ lg s.val ∧ lg s.val ≤ 5) ∧ Lib.bitLen s.val ≤ 6:=by decide +kernel
/-- The number of variables of a function;0: it is none. -/
def fnN (c:ByteArray):Nat:=if okC c = true then lg c.size else 0
theorem fnN_pos {c:ByteArray} (hc:c.size ≤ 40) (h:fnN c ≠ 0):okC c = true ∧ c.size = 2 ^ fnN c ∧ 1 ≤ fnN c ∧ fnN c ≤ 5 ∧ c.size ≤ 32:=by
  unfold fnN at h ⊢
  by_cases ho:okC c = true
  · rw [if_pos ho] at h ⊢
    have:=(lg_table ⟨c.size,by omega⟩).2.1 h
    simp only at this
    have h2:2 ^ lg c.size ≤ 2 ^ 5:=Nat.pow_le_pow_right (by decide) this.2.2
    exact ⟨ho,this.2.1,by omega,this.2.2,by omega⟩
  · rw [if_neg ho] at h;exact absurd rfl h
section
variable {c:ByteArray} (hc:c.size ≤ 40)
include hc
theorem newF:∃ m:Int,(fnN c ≠ 0 → m = (fnN c:Int)) ∧ card_newFunction.f c = some (m,c,decide (fnN c ≠ 0)):=by
  have ht:=lg_table ⟨c.size,by omega⟩
  simp only at ht
  have hu:IntKind.u64.wrap (c.size:Int) = (c.size:Int):=wrap_u64_nat _ (by omega)
  have hb:bits_Len.f (c.size:Int) = some (Lib.bitLen c.size:Int):=by
    unfold bits_Len.f
    rw [if_pos (by omega),Int.toNat_natCast]
  have hw:wrap64 ((Lib.bitLen c.size:Int) - 1) = (Lib.bitLen c.size:Int) - 1:=wrap_id (by omega) (by omega)
  unfold card_newFunction.f
  rw [hu,hb,Option.bind_some,hw]
  unfold card_within.f
  by_cases hl:lg c.size = 0
  · have hn:fnN c = 0:=by unfold fnN;rw [hl];split <;> rfl
    have h1:=ht.1 hl
    refine ⟨(Lib.bitLen c.size:Int) - 1,fun h=>absurd hn h,?_⟩
    have hd:decide (fnN c ≠ 0) = false:=by rw [hn];rfl
    rw [hd]
    by_cases a1:(Lib.bitLen c.size:Int) - 1 ≥ 1
    · rw [if_pos a1,Option.bind_some]
      by_cases a2:(Lib.bitLen c.size:Int) - 1 ≤ 5
      · rw [if_pos (decide_eq_true a2),if_pos (by omega)]
        have e:(Lib.bitLen c.size:Int) - 1 = ((Lib.bitLen c.size - 1:Nat):Int):=by omega
        rw [e,shl_one (by omega),if_neg (fun h=>h1 ⟨by omega,by omega,by exact_mod_cast h⟩)]
      · rw [if_neg (by rw [decide_eq_false a2];decide)]
    · rw [if_neg a1,Option.bind_some,if_neg (by decide)]
  · obtain ⟨h1,h2,h3⟩:=ht.2.1 hl
    have e:(Lib.bitLen c.size:Int) - 1 = (lg c.size:Int):=by omega
    rw [e,if_pos (by omega),Option.bind_some,if_pos (decide_eq_true (by omega)),if_pos (by omega),shl_one (by omega),if_pos (by exact_mod_cast h2)]
    refine ⟨(lg c.size:Int),fun h=>?_,?_⟩
    · unfold fnN at h ⊢
      by_cases ho:okC c = true
      · rw [if_pos ho]
      · rw [if_neg ho] at h;exact absurd rfl h
    · unfold contains96.f
      rw [Option.bind_some,Bool.not_not]
      congr 3
      unfold fnN
      by_cases ho:okC c = true
      · rw [if_pos ho,ho,decide_eq_true hl]
      · have ho':okC c = false:=by simpa using ho
        rw [if_neg ho,ho'];rfl
end
end Go.Proofs.Ythpahlkhiknofaa.P
set_option linter.unusedSectionVars false
namespace Go.Proofs.Ythpahlkhiknofaa.P
open Go Go.RowKit Go.Proofs.Ythpahlkhiknofaa.M Go.Proofs.Ythpahlkhiknofaa.G
open Go.Proofs.YthpahlkhiknofaaW.PrintWords Go.Proofs.YthpahlkhiknofaaW.PrintMore
theorem xor_small:∀ a b:Fin 32,Go.bits .xor .i64 (a.val:Int) (b.val:Int) = ((a.val ^^^ b.val:Nat):Int):=by decide +kernel
theorem and_one (p:Nat) (h:p < 2 ^ 60):Go.bits .and .i64 (p:Int) 1 = ((p % 2:Nat):Int):=by
 have:=ni_and p 1 (by omega) (by decide)
 rw [Nat.and_one_is_mod] at this
 exact this
end Go.Proofs.Ythpahlkhiknofaa.P
namespace Go.Proofs.Ythpahlkhiknofaa.P
open Go Go.RowKit Go.Proofs.YthpahlkhiknofaaW.PrintWords
theorem data_get {s:ByteArray} {i:Nat} (h:i < s.size):s.data.toList[i]'(by rw [data_length];exact h) = s[i]:=by
 rw [Array.getElem_toList];rfl
def noH (s:ByteArray):Bool:=allF (fun i=>decide (bt s (i:Int) ≠ 45)) s.size 0
theorem indexByte_pos (c:UInt8):∀ (l:List UInt8),decide (0 ≤ Lib.indexByte l c) = l.any (· == c)
 | []=>rfl
 | b :: l=>by
  have ih:=indexByte_pos c l
  have hg:=Lib.indexByte_ge l c
  rw [Lib.indexByte,List.any_cons]
  by_cases hb:(b == c) = true
  ·rw [if_pos hb,hb];rfl
  rw [if_neg hb]
  have hb':(b == c) = false:=by simpa using hb
  rw [hb',Bool.false_or,← ih]
  by_cases h:Lib.indexByte l c = -1
  ·rw [h];rfl
  rw [if_neg (by simpa using h)]
  rw [decide_eq_true (by omega),decide_eq_true (by omega)]
theorem any_hyphen (s:ByteArray):decide (0 ≤ Lib.indexByte s.data.toList 45) = !noH s:=by
 rw [indexByte_pos,Bool.eq_iff_iff,List.any_eq_true,Bool.not_eq_true',← Bool.not_eq_true]
 unfold noH
 rw [allF_iff]
 constructor
 ·rintro ⟨x,hx,he⟩ hall
  obtain ⟨i,hi,rfl⟩:=List.getElem_of_mem hx
  have hi':i < s.size:=by rw [← data_length];exact hi
  have:=hall i (by omega) (by omega)
  rw [decide_eq_true_eq] at this
  apply this
  rw [bt_get hi']
  have e:s[i] = 45:=by rw [← data_get hi'];simpa using he
  rw [e];rfl
 intro h
 have:∃ i,i < s.size ∧ bt s (i:Int) = 45:=by
  apply Classical.byContradiction
  intro hno
  apply h
  intro j _ hj
  rw [decide_eq_true_eq]
  exact fun he=>hno ⟨j,by omega,he⟩
 obtain ⟨i,hi,he⟩:=this
 refine ⟨s.data.toList[i]'(by rw [data_length];exact hi),List.getElem_mem _,?_⟩
 rw [data_get hi]
 rw [bt_get hi] at he
 have:s[i] = 45:=by
  rw [← UInt8.toNat_inj]
  show s[i].toNat = 45
  omega
 rw [this];rfl
end Go.Proofs.Ythpahlkhiknofaa.P
namespace Go.Proofs.Ythpahlkhiknofaa.G
open Go Go.RowKit Go.Proofs.YthpahlkhiknofaaW.PrintWords
def strings_Contains.f (a0 a1:ByteArray):Option Bool:=if a1 = ⟨#[45]⟩ then some (!P.noH a0) else none
theorem strings_Contains.calls (a0 a1:ByteArray) (r:Bool) (w:World) (h:strings_Contains.f a0 a1 = some r):Calls Try.prog 92 #[.string a0,.string a1] w fun e w'=>e = .returned (.bool r) ∧ Below w.heap.size w w':=by
 unfold strings_Contains.f at h
 by_cases hb:a1 = ⟨#[45]⟩
 case neg =>
  rw [if_neg hb] at h;cases h
 rw [if_pos hb] at h
 obtain rfl:=Option.some.inj h
 subst hb
 refine (Try.strings_Contains_one a0 45 w).mono fun e w' he=>?_
 obtain ⟨rfl,rfl⟩:=he
 exact ⟨by rw [P.any_hyphen],Below.refl _ _⟩
end Go.Proofs.Ythpahlkhiknofaa.G
namespace Go.Proofs.Ythpahlkhiknofaa.G
open Go.RowKit Go.Proofs.YthpahlkhiknofaaW.PrintWords Go.Proofs.YthpahlkhiknofaaW.PrintLast Go.Proofs.YthpahlkhiknofaaW.PrintMore
set_option maxHeartbeats 8000000
set_option maxRecDepth 100000
attribute [local go_sem] max2_int min2_int max_two min_two max_three min_three max_four min_four   -- for this text's walks alone
def card_newTotal.f (a0:ByteArray):Option (Int × ByteArray × Bool):=(card_newFunction.f a0).bind fun bt116=>(if bt116.2.2 = true then ((strings_Contains.f a0 (⟨#[45]⟩:ByteArray)).bind fun t120=>(some (bt116.1,bt116.2.1,!t120))) else (some (bt116.1,bt116.2.1,false)))
def card_newTotal.T2:Bool × List (List Nat × List Nat):=(true,[([],[]),([],[]),([1],[1]),([2],[2]),([3,2,2],[2,3]),([4,2],[2,4]),([2,5],[2,5]),([0,4,0],[0]),([6,7,0,1,2,3,4,5,6,7],[6])])
def card_newTotal.B2:List Nat:=[0,0,2,6,14,30,62,31,255]
theorem card_newTotal.tab2:rtab .any (opsOf Try.f58 2) = card_newTotal.T2:=by kernel_rfl
theorem card_newTotal.bits2:waitsOk card_newTotal.T2.2 card_newTotal.B2 = true:=by kernel_rfl
theorem card_newTotal.calls (a0:ByteArray) (r1:Int) (r2:ByteArray) (r3:Bool) (w:World) (h:card_newTotal.f a0 = some (r1,r2,r3)) :
  Calls Try.prog 58 #[.string a0] w fun e w'=>e = .returned (.tuple #[.agg #[.int .i64 r1,.string r2],.bool r3]) ∧ Below w.heap.size w w':=by
 have hu81:=Try.underlying81
 have HB:=Aside0.mk (Below.refl w.heap.size w)
 have H:((card_newFunction.f a0).bind fun bt116=>(if bt116.2.2 = true then ((strings_Contains.f a0 (⟨#[45]⟩:ByteArray)).bind fun t120=>(some (bt116.1,bt116.2.1,!t120))) else (some (bt116.1,bt116.2.1,false)))) = some (r1,r2,r3):=h
 clear h
 replace H:=Option.bind_eq_some_iff.mp H
 obtain ⟨⟨t116,t117,t118⟩,A20,H⟩:=H
 replace H:(if t118 = true then ((strings_Contains.f a0 (⟨#[45]⟩:ByteArray)).bind fun t120=>(some (t116,t117,!t120))) else (some (t116,t117,false))) = some (r1,r2,r3):=H
 have A2:=Aside0.mk A20
 clear A20
 by_cases c3:t118 = true
 case neg =>
  replace c3:=Bool.eq_false_iff.mpr c3
  subst c3
  have H1:(some (t116,t117,false)) = some (r1,r2,r3):=by rw [if_neg (show ¬ (false = true) by decide)] at H;exact H
  clear H
  have H:=H1
  clear H1
  simp only [Option.some.injEq,Prod.mk.injEq] at H
  obtain ⟨rfl,rfl,rfl⟩:=H
  go_enter Try.func58,Try.ntmps58
  try go_wp2_with (first | ((with_reducible refine gate_dst (N:=2) rfl ?_);refine box_event ?hg (N:=2) ?hd (cs:=#[.int .i64 0,.string (⟨#[]⟩:ByteArray)]) (t:=81) ?hr ?_;(case hd=>rfl);(case hg=>rfl);(case hr=>first | (go_simp;done) | (go_simp;rfl));intro gb115 hg w15 hbox hb;have n0_:=Aside0.mk (below_step (by repeat (first | (with_reducible first | exact HB.out | apply below_alloc | apply pw_below_drewN | apply below_drew1) | exact HB.out)) hb);have n1_:=Aside0.mk (hbox);have n2_:=Aside0.mk ((by rw [hg];exact (below_size (by repeat (first | (with_reducible first | exact HB.out | apply below_alloc | apply pw_below_drewN | apply below_drew1) | exact HB.out))):w.heap.size ≤ gb115));have n3_:=Aside0.mk ((by rw [hg];exact (below_size (by repeat (first | (with_reducible first | exact HB.out | apply below_alloc | apply pw_below_drewN | apply below_drew1) | exact HB.out))):w.heap.size ≤ gb115));clear HB;have HB:=n0_;have BK115:=n1_;have GW115:=n2_;have GE115:=n3_;clear n0_ n1_ n2_ n3_;clear hb hbox hg) | ((with_reducible refine gate_callee (f:=65) rfl ?_);refine goesL_ (some 8) rfl rfl Try.func65 (by kernel_rfl) rfl #[.string a0] rfl (by (try simp only [List.map_toArray,List.map_cons,List.map_nil]);first | done | rfl | (simp only [List.length_drop,List.length_take];rfl)) ?_;(with_reducible refine (card_newFunction.calls a0 t116 t117 false _ A2.out).mono ?_);rintro e w16 ⟨rfl,hb⟩;refine ⟨_,rfl,?_⟩;have n0_:=Aside0.mk (blk_below (g:=gb115) (o:=.cells #[.int .i64 0,.string (⟨#[]⟩:ByteArray)] 81 (0,0)) (by (with_reducible repeat (first | refine blk_drewN ?_ _ | refine blk_drew ?_ | refine blk_alloc ?_ _));exact BK115.out) hb);have n1_:=Aside0.mk (below_step (by repeat (first | (with_reducible first | exact HB.out | apply below_alloc | apply pw_below_drewN | apply below_drew1 | refine below_set ?_ GE115.out) | exact HB.out)) hb);clear BK115;clear HB;have BK115:=n0_;have HB:=n1_;clear n0_ n1_;(try clear hb)) | ((with_reducible refine gate_dst (N:=4) rfl ?_);refine box_event ?hg (N:=4) ?hd (cs:=#[.int .i64 0,.string (⟨#[]⟩:ByteArray)]) (t:=81) ?hr ?_;(case hd=>rfl);(case hg=>rfl);(case hr=>first | (go_simp;done) | (go_simp;rfl));intro gb119 hg w17 hbox hb;have n0_:=Aside0.mk (blk_below (g:=gb115) (o:=.cells #[.int .i64 0,.string (⟨#[]⟩:ByteArray)] 81 (0,0)) (by (with_reducible repeat (first | refine blk_drewN ?_ _ | refine blk_drew ?_ | refine blk_alloc ?_ _));exact BK115.out) hb);have n1_:=Aside0.mk (below_step (by repeat (first | (with_reducible first | exact HB.out | apply below_alloc | apply pw_below_drewN | apply below_drew1 | refine below_set ?_ GE115.out) | exact HB.out)) hb);have n2_:=Aside0.mk (hbox);have n3_:=Aside0.mk ((by rw [hg];exact (below_size (by repeat (first | (with_reducible first | exact HB.out | apply below_alloc | apply pw_below_drewN | apply below_drew1 | refine below_set ?_ GE115.out) | exact HB.out))):w.heap.size ≤ gb119));have n4_:=Aside0.mk ((by rw [hg];exact (below_size (by repeat (first | (with_reducible first | exact HB.out | apply below_alloc | apply pw_below_drewN | apply below_drew1 | refine below_set ?_ GE115.out) | exact HB.out))):w.heap.size ≤ gb119));have n5_:=Aside0.mk ((by rw [hg];exact Nat.ne_of_lt (blk_lt (g:=gb115) (o:=.cells #[.int .i64 0,.string (⟨#[]⟩:ByteArray)] 81 (0,0)) (by (with_reducible repeat (first | refine blk_drewN ?_ _ | refine blk_drew ?_ | refine blk_alloc ?_ _));exact BK115.out)):gb115 ≠ gb119));have n6_:=Aside0.mk ((by rw [hg];exact Nat.ne_of_gt (blk_lt (g:=gb115) (o:=.cells #[.int .i64 0,.string (⟨#[]⟩:ByteArray)] 81 (0,0)) (by (with_reducible repeat (first | refine blk_drewN ?_ _ | refine blk_drew ?_ | refine blk_alloc ?_ _));exact BK115.out)):gb119 ≠ gb115));clear BK115;clear HB;have BK115:=n0_;have HB:=n1_;have BK119:=n2_;have GW119:=n3_;have GE119:=n4_;have NB115_119:=n5_;have NB119_115:=n6_;clear n0_ n1_ n2_ n3_ n4_ n5_ n6_;clear hb hbox hg;have hnb18:=NB119_115.out;have hnc18:=NB115_119.out;have hcz19_0:w17.cell? ⟨gb119,0,none⟩ = some (.int .i64 0):=(blk_cell BK119.out 0).trans rfl;have hcz19_1:w17.cell? ⟨gb119,1,none⟩ = some (.string (⟨#[]⟩:ByteArray)):=(blk_cell BK119.out 1).trans rfl;have hfz19_0:=blk_frozen BK119.out 0;have hfz19_1:=blk_frozen BK119.out 1))
  have n0_:Aside0 (((w17.setCell ⟨gb119,0,none⟩ (.int .i64 t116)).setCell ⟨gb119,1,none⟩ (.string t117)).heap[gb115]? = some (.cells #[.int .i64 0,.string (⟨#[]⟩:ByteArray)] 81 (0,0))):=⟨by (with_reducible repeat (first | refine blk_drewN ?_ _ | refine blk_drew ?_ | refine blk_alloc ?_ _));refine blk_far ?_ NB115_119.out _;(with_reducible repeat (first | refine blk_drewN ?_ _ | refine blk_drew ?_ | refine blk_alloc ?_ _));refine blk_far ?_ NB115_119.out _;(with_reducible repeat (first | refine blk_drewN ?_ _ | refine blk_drew ?_ | refine blk_alloc ?_ _));exact BK115.out⟩
  have n1_:Aside0 (((w17.setCell ⟨gb119,0,none⟩ (.int .i64 t116)).setCell ⟨gb119,1,none⟩ (.string t117)).heap[gb119]? = some (.cells #[.int .i64 t116,.string t117] 81 (0,0))):=⟨by (with_reducible repeat (first | refine blk_drewN ?_ _ | refine blk_drew ?_ | refine blk_alloc ?_ _));refine blk_put (cs:=#[.int .i64 t116,.string (⟨#[]⟩:ByteArray)]) ?_ 1 _ rfl;(with_reducible repeat (first | refine blk_drewN ?_ _ | refine blk_drew ?_ | refine blk_alloc ?_ _));refine blk_put (cs:=#[.int .i64 0,.string (⟨#[]⟩:ByteArray)]) ?_ 0 _ rfl;(with_reducible repeat (first | refine blk_drewN ?_ _ | refine blk_drew ?_ | refine blk_alloc ?_ _));exact BK119.out⟩
  have n2_:Aside0 (Below w.heap.size w ((w17.setCell ⟨gb119,0,none⟩ (.int .i64 t116)).setCell ⟨gb119,1,none⟩ (.string t117))):=⟨by repeat (first | (with_reducible first | exact HB.out | apply below_alloc | apply pw_below_drewN | apply below_drew1 | refine below_set ?_ GE115.out | refine below_set ?_ GE119.out) | exact HB.out)⟩
  (try clear BK115)
  (try clear BK119)
  (try clear HB)
  generalize ((w17.setCell ⟨gb119,0,none⟩ (.int .i64 t116)).setCell ⟨gb119,1,none⟩ (.string t117)) = w20 at n0_ n1_ n2_ ⊢
  have BK115:=n0_
  have BK119:=n1_
  have HB:=n2_
  clear n0_ n1_ n2_
  have n0_:=Aside0.mk (blk_drew BK115.out)
  have n1_:=Aside0.mk (blk_drew BK119.out)
  have n2_:=Aside0.mk (below_drew1 HB.out)
  clear BK115
  clear BK119
  clear HB
  have BK115:=n0_
  have BK119:=n1_
  have HB:=n2_
  clear n0_ n1_ n2_
  refine start_ (n:=9) (S:=fun w'=>w'.cell? ⟨gb119,0,none⟩ = some (.int .i64 t116) ∧ w'.cell? ⟨gb119,1,none⟩ = some (.string t117)) (ds:=[]) #[false,false,false,false,false,false,false,false,false] (by kernel_rfl) rfl rfl ⟨(blk_cell BK119.out 0).trans rfl,(blk_cell BK119.out 1).trans rfl⟩ (fun hHeld=>?_);refine with_tabW card_newTotal.tab2 card_newTotal.bits2 (fun HT_ HW_=>?_)
  generalize w20.drew = w21 at BK115 BK119 HB hHeld ⊢
  refine pure_ (i:=1) (N:=some 12) (v:=?_) (a':=?_) #[false,true,false,false,false,false,false,false,false] rfl rfl (any_of HT_.out (by kernel_rfl)) (fun _ _ _ h=>h) (Or.inl ⟨by rfl,?_⟩) ?_ ?_
  rotate_left
  ·intro w'
   go_simp
   with_reducible rfl
  rotate_left
  ·simp only [Act.put,List.setIfInBounds_toArray,List.set_cons_zero,List.set_cons_succ,i64_w,i32_w]
   rfl
  refine pure_ (i:=2) (N:=some 13) (v:=?_) (a':=?_) #[false,true,true,false,false,false,false,false,false] rfl rfl (any_of HT_.out (by kernel_rfl)) (fun _ _ _ h=>h) (Or.inl ⟨by rfl,?_⟩) ?_ ?_
  rotate_left
  ·intro w'
   go_simp
   with_reducible rfl
  rotate_left
  ·simp only [Act.put,List.setIfInBounds_toArray,List.set_cons_zero,List.set_cons_succ,i64_w,i32_w]
   rfl
  refine pure_ (i:=3) (N:=some 14) (v:=undef) (a':=?_) #[false,true,true,true,false,false,false,false,false] rfl rfl (any_of HT_.out (by kernel_rfl)) (fun _ _ _ h=>h) (Or.inr ⟨by rfl,rfl⟩) ?_ ?_
  rotate_left
  ·simp only [Act.put,List.setIfInBounds_toArray,List.set_cons_zero,List.set_cons_succ,i64_w,i32_w]
   rfl
  refine pure_ (i:=4) (N:=some 15) (v:=undef) (a':=?_) #[false,true,true,true,true,false,false,false,false] rfl rfl (any_of HT_.out (by kernel_rfl)) (fun _ _ _ h=>h) (Or.inr ⟨by rfl,rfl⟩) ?_ ?_
  rotate_left
  ·simp only [Act.put,List.setIfInBounds_toArray,List.set_cons_zero,List.set_cons_succ,i64_w,i32_w]
   rfl
  refine pure_ (i:=5) (N:=some 16) (v:=undef) (a':=?_) #[false,true,true,true,true,true,false,false,false] rfl rfl (any_of HT_.out (by kernel_rfl)) (fun _ _ _ h=>h) (Or.inr ⟨by rfl,rfl⟩) ?_ ?_
  rotate_left
  ·simp only [Act.put,List.setIfInBounds_toArray,List.set_cons_zero,List.set_cons_succ,i64_w,i32_w]
   rfl
  refine pure_ (i:=6) (N:=some 17) (v:=?_) (a':=?_) #[false,true,true,true,true,true,true,false,false] rfl rfl (any_of HT_.out (by kernel_rfl)) (fun _ _ _ h=>h) (Or.inl ⟨by rfl,?_⟩) ?_ ?_
  rotate_left
  ·intro w'
   go_simp
   with_reducible rfl
  rotate_left
  ·simp only [Act.put,List.setIfInBounds_toArray,List.set_cons_zero,List.set_cons_succ,i64_w,i32_w]
   rfl
  refine take_ (i:=0) (N:=some 11) (v:=?_) (a':=?_) #[true,true,true,true,true,true,true,false,false] rfl rfl (take_ofW HT_.out HW_.out (by kernel_rfl)) (fun _ _ _ h=>h) (Or.inl ⟨by rfl,?_⟩) hHeld ?_ ?_
  rotate_left
  ·rintro w' ⟨s0,s1⟩
   go_simp
   with_reducible rfl
  rotate_left
  ·simp only [Act.put,List.setIfInBounds_toArray,List.set_cons_zero,List.set_cons_succ,i64_w,i32_w]
   rfl
  refine one_ (i:=7) (N:=none) #[true,true,true,true,true,true,true,true,false] rfl rfl (one_of HT_.out (by kernel_rfl)) (by decide) (fun K hK=>?_)
  have hs22:w21.cell? ⟨gb115,0,none⟩ = some (.int .i64 0):=(blk_cell BK115.out 0).trans rfl
  have hfs22:=blk_frozen BK115.out 0
  have hns22_1:=NB119_115.out
  have hms22_1:=NB115_119.out
  have hs23:w21.cell? ⟨gb115,1,none⟩ = some (.string (⟨#[]⟩:ByteArray)):=(blk_cell BK115.out 1).trans rfl
  have hfs23:=blk_frozen BK115.out 1
  have hns23_1:=NB119_115.out
  have hms23_1:=NB115_119.out
  refine skip_ (w1:=?_) (by rfl) rfl ?_ ?_
  rotate_left
  ·go_simp
   rfl
  refine hK.out _ _ ⟨((cell_far (p:=⟨gb115,_,none⟩) NB119_115.out _).trans (((cell_far (p:=⟨gb115,_,none⟩) NB119_115.out _).trans (hHeld.1)))),((cell_far (p:=⟨gb115,_,none⟩) NB119_115.out _).trans (((cell_far (p:=⟨gb115,_,none⟩) NB119_115.out _).trans (hHeld.2))))⟩ (fun hHeld=>?_)
  clear hK K
  refine pure_ (i:=8) (N:=some 3) (v:=?_) (a':=?_) #[true,true,true,true,true,true,true,true,true] rfl rfl (any_of HT_.out (by kernel_rfl)) (fun _ _ _ h=>h) (Or.inl ⟨by rfl,?_⟩) ?_ ?_
  rotate_left
  ·intro w'
   go_simp
   with_reducible rfl
  rotate_left
  ·simp only [Act.put,List.setIfInBounds_toArray,List.set_cons_zero,List.set_cons_succ,i64_w,i32_w]
   rfl
  refine done_ (done_of HT_.out (by kernel_rfl)) ?_
  try go_wp2
  refine bodyPost_ret (results_ct rfl _ _ gb115 81 #[.int .i64 t116,.string t117] (0,0) _ rfl (by (with_reducible repeat (first | refine blk_drewN ?_ _ | refine blk_drew ?_ | refine blk_alloc ?_ _));refine blk_put (cs:=#[.int .i64 t116,.string (⟨#[]⟩:ByteArray)]) ?_ 1 _ rfl;(with_reducible repeat (first | refine blk_drewN ?_ _ | refine blk_drew ?_ | refine blk_alloc ?_ _));refine blk_put (cs:=#[.int .i64 0,.string (⟨#[]⟩:ByteArray)]) ?_ 0 _ rfl;(with_reducible repeat (first | refine blk_drewN ?_ _ | refine blk_drew ?_ | refine blk_alloc ?_ _));exact BK115.out) Try.underlying81 rfl (by kernel_rfl)) rfl ?_
  exact ⟨by first | rfl | (simp [errW_none,errW_some] <;> rfl) | (simp [*,errW_none,errW_some] <;> rfl),by repeat (first | (with_reducible first | exact HB.out | apply below_alloc | apply pw_below_drewN | apply below_drew1 | refine below_set ?_ GE115.out | refine below_set ?_ GE119.out) | exact HB.out)⟩
 subst c3
 have H1:((strings_Contains.f a0 (⟨#[45]⟩:ByteArray)).bind fun t120=>(some (t116,t117,!t120))) = some (r1,r2,r3):=by rw [if_pos rfl] at H;exact H
 clear H
 have H:=H1
 clear H1
 replace H:=Option.bind_eq_some_iff.mp H
 obtain ⟨t120,A40,H⟩:=H
 replace H:(some (t116,t117,!t120)) = some (r1,r2,r3):=H
 have A4:=Aside0.mk A40
 clear A40
 simp only [Option.some.injEq,Prod.mk.injEq] at H
 obtain ⟨rfl,rfl,rfl⟩:=H
 go_enter Try.func58,Try.ntmps58
 try go_wp2_with (first | ((with_reducible refine gate_dst (N:=2) rfl ?_);refine box_event ?hg (N:=2) ?hd (cs:=#[.int .i64 0,.string (⟨#[]⟩:ByteArray)]) (t:=81) ?hr ?_;(case hd=>rfl);(case hg=>rfl);(case hr=>first | (go_simp;done) | (go_simp;rfl));intro gb115 hg w5 hbox hb;have n0_:=Aside0.mk (below_step (by repeat (first | (with_reducible first | exact HB.out | apply below_alloc | apply pw_below_drewN | apply below_drew1) | exact HB.out)) hb);have n1_:=Aside0.mk (hbox);have n2_:=Aside0.mk ((by rw [hg];exact (below_size (by repeat (first | (with_reducible first | exact HB.out | apply below_alloc | apply pw_below_drewN | apply below_drew1) | exact HB.out))):w.heap.size ≤ gb115));have n3_:=Aside0.mk ((by rw [hg];exact (below_size (by repeat (first | (with_reducible first | exact HB.out | apply below_alloc | apply pw_below_drewN | apply below_drew1) | exact HB.out))):w.heap.size ≤ gb115));clear HB;have HB:=n0_;have BK115:=n1_;have GW115:=n2_;have GE115:=n3_;clear n0_ n1_ n2_ n3_;clear hb hbox hg) | ((with_reducible refine gate_callee (f:=65) rfl ?_);refine goesL_ (some 8) rfl rfl Try.func65 (by kernel_rfl) rfl #[.string a0] rfl (by (try simp only [List.map_toArray,List.map_cons,List.map_nil]);first | done | rfl | (simp only [List.length_drop,List.length_take];rfl)) ?_;(with_reducible refine (card_newFunction.calls a0 t116 t117 true _ A2.out).mono ?_);rintro e w6 ⟨rfl,hb⟩;refine ⟨_,rfl,?_⟩;have n0_:=Aside0.mk (blk_below (g:=gb115) (o:=.cells #[.int .i64 0,.string (⟨#[]⟩:ByteArray)] 81 (0,0)) (by (with_reducible repeat (first | refine blk_drewN ?_ _ | refine blk_drew ?_ | refine blk_alloc ?_ _));exact BK115.out) hb);have n1_:=Aside0.mk (below_step (by repeat (first | (with_reducible first | exact HB.out | apply below_alloc | apply pw_below_drewN | apply below_drew1 | refine below_set ?_ GE115.out) | exact HB.out)) hb);clear BK115;clear HB;have BK115:=n0_;have HB:=n1_;clear n0_ n1_;(try clear hb)) | ((with_reducible refine gate_dst (N:=4) rfl ?_);refine box_event ?hg (N:=4) ?hd (cs:=#[.int .i64 0,.string (⟨#[]⟩:ByteArray)]) (t:=81) ?hr ?_;(case hd=>rfl);(case hg=>rfl);(case hr=>first | (go_simp;done) | (go_simp;rfl));intro gb119 hg w7 hbox hb;have n0_:=Aside0.mk (blk_below (g:=gb115) (o:=.cells #[.int .i64 0,.string (⟨#[]⟩:ByteArray)] 81 (0,0)) (by (with_reducible repeat (first | refine blk_drewN ?_ _ | refine blk_drew ?_ | refine blk_alloc ?_ _));exact BK115.out) hb);have n1_:=Aside0.mk (below_step (by repeat (first | (with_reducible first | exact HB.out | apply below_alloc | apply pw_below_drewN | apply below_drew1 | refine below_set ?_ GE115.out) | exact HB.out)) hb);have n2_:=Aside0.mk (hbox);have n3_:=Aside0.mk ((by rw [hg];exact (below_size (by repeat (first | (with_reducible first | exact HB.out | apply below_alloc | apply pw_below_drewN | apply below_drew1 | refine below_set ?_ GE115.out) | exact HB.out))):w.heap.size ≤ gb119));have n4_:=Aside0.mk ((by rw [hg];exact (below_size (by repeat (first | (with_reducible first | exact HB.out | apply below_alloc | apply pw_below_drewN | apply below_drew1 | refine below_set ?_ GE115.out) | exact HB.out))):w.heap.size ≤ gb119));have n5_:=Aside0.mk ((by rw [hg];exact Nat.ne_of_lt (blk_lt (g:=gb115) (o:=.cells #[.int .i64 0,.string (⟨#[]⟩:ByteArray)] 81 (0,0)) (by (with_reducible repeat (first | refine blk_drewN ?_ _ | refine blk_drew ?_ | refine blk_alloc ?_ _));exact BK115.out)):gb115 ≠ gb119));have n6_:=Aside0.mk ((by rw [hg];exact Nat.ne_of_gt (blk_lt (g:=gb115) (o:=.cells #[.int .i64 0,.string (⟨#[]⟩:ByteArray)] 81 (0,0)) (by (with_reducible repeat (first | refine blk_drewN ?_ _ | refine blk_drew ?_ | refine blk_alloc ?_ _));exact BK115.out)):gb119 ≠ gb115));clear BK115;clear HB;have BK115:=n0_;have HB:=n1_;have BK119:=n2_;have GW119:=n3_;have GE119:=n4_;have NB115_119:=n5_;have NB119_115:=n6_;clear n0_ n1_ n2_ n3_ n4_ n5_ n6_;clear hb hbox hg;have hnb8:=NB119_115.out;have hnc8:=NB115_119.out;have hcz9_0:w7.cell? ⟨gb119,0,none⟩ = some (.int .i64 0):=(blk_cell BK119.out 0).trans rfl;have hcz9_1:w7.cell? ⟨gb119,1,none⟩ = some (.string (⟨#[]⟩:ByteArray)):=(blk_cell BK119.out 1).trans rfl;have hfz9_0:=blk_frozen BK119.out 0;have hfz9_1:=blk_frozen BK119.out 1))
 have n0_:Aside0 (((w7.setCell ⟨gb119,0,none⟩ (.int .i64 t116)).setCell ⟨gb119,1,none⟩ (.string t117)).heap[gb115]? = some (.cells #[.int .i64 0,.string (⟨#[]⟩:ByteArray)] 81 (0,0))):=⟨by (with_reducible repeat (first | refine blk_drewN ?_ _ | refine blk_drew ?_ | refine blk_alloc ?_ _));refine blk_far ?_ NB115_119.out _;(with_reducible repeat (first | refine blk_drewN ?_ _ | refine blk_drew ?_ | refine blk_alloc ?_ _));refine blk_far ?_ NB115_119.out _;(with_reducible repeat (first | refine blk_drewN ?_ _ | refine blk_drew ?_ | refine blk_alloc ?_ _));exact BK115.out⟩
 have n1_:Aside0 (((w7.setCell ⟨gb119,0,none⟩ (.int .i64 t116)).setCell ⟨gb119,1,none⟩ (.string t117)).heap[gb119]? = some (.cells #[.int .i64 t116,.string t117] 81 (0,0))):=⟨by (with_reducible repeat (first | refine blk_drewN ?_ _ | refine blk_drew ?_ | refine blk_alloc ?_ _));refine blk_put (cs:=#[.int .i64 t116,.string (⟨#[]⟩:ByteArray)]) ?_ 1 _ rfl;(with_reducible repeat (first | refine blk_drewN ?_ _ | refine blk_drew ?_ | refine blk_alloc ?_ _));refine blk_put (cs:=#[.int .i64 0,.string (⟨#[]⟩:ByteArray)]) ?_ 0 _ rfl;(with_reducible repeat (first | refine blk_drewN ?_ _ | refine blk_drew ?_ | refine blk_alloc ?_ _));exact BK119.out⟩
 have n2_:Aside0 (Below w.heap.size w ((w7.setCell ⟨gb119,0,none⟩ (.int .i64 t116)).setCell ⟨gb119,1,none⟩ (.string t117))):=⟨by repeat (first | (with_reducible first | exact HB.out | apply below_alloc | apply pw_below_drewN | apply below_drew1 | refine below_set ?_ GE115.out | refine below_set ?_ GE119.out) | exact HB.out)⟩
 (try clear BK115)
 (try clear BK119)
 (try clear HB)
 generalize ((w7.setCell ⟨gb119,0,none⟩ (.int .i64 t116)).setCell ⟨gb119,1,none⟩ (.string t117)) = w10 at n0_ n1_ n2_ ⊢
 have BK115:=n0_
 have BK119:=n1_
 have HB:=n2_
 clear n0_ n1_ n2_
 have n0_:=Aside0.mk (blk_drew BK115.out)
 have n1_:=Aside0.mk (blk_drew BK119.out)
 have n2_:=Aside0.mk (below_drew1 HB.out)
 clear BK115
 clear BK119
 clear HB
 have BK115:=n0_
 have BK119:=n1_
 have HB:=n2_
 clear n0_ n1_ n2_
 refine start_ (n:=9) (S:=fun w'=>w'.cell? ⟨gb119,0,none⟩ = some (.int .i64 t116) ∧ w'.cell? ⟨gb119,1,none⟩ = some (.string t117)) (ds:=[]) #[false,false,false,false,false,false,false,false,false] (by kernel_rfl) rfl rfl ⟨(blk_cell BK119.out 0).trans rfl,(blk_cell BK119.out 1).trans rfl⟩ (fun hHeld=>?_);refine with_tabW card_newTotal.tab2 card_newTotal.bits2 (fun HT_ HW_=>?_)
 generalize w10.drew = w11 at BK115 BK119 HB hHeld ⊢
 refine pure_ (i:=1) (N:=some 12) (v:=?_) (a':=?_) #[false,true,false,false,false,false,false,false,false] rfl rfl (any_of HT_.out (by kernel_rfl)) (fun _ _ _ h=>h) (Or.inl ⟨by rfl,?_⟩) ?_ ?_
 rotate_left
 ·intro w'
  go_simp
  with_reducible rfl
 rotate_left
 ·simp only [Act.put,List.setIfInBounds_toArray,List.set_cons_zero,List.set_cons_succ,i64_w,i32_w]
  rfl
 refine pure_ (i:=2) (N:=some 13) (v:=?_) (a':=?_) #[false,true,true,false,false,false,false,false,false] rfl rfl (any_of HT_.out (by kernel_rfl)) (fun _ _ _ h=>h) (Or.inl ⟨by rfl,?_⟩) ?_ ?_
 rotate_left
 ·intro w'
  go_simp
  with_reducible rfl
 rotate_left
 ·simp only [Act.put,List.setIfInBounds_toArray,List.set_cons_zero,List.set_cons_succ,i64_w,i32_w]
  rfl
 refine pure_ (i:=3) (N:=some 14) (v:=?_) (a':=?_) #[false,true,true,true,false,false,false,false,false] rfl rfl (any_of HT_.out (by kernel_rfl)) (fun _ _ _ h=>h) (Or.inl ⟨by rfl,?_⟩) ?_ ?_
 rotate_left
 ·intro w'
  go_simp
  with_reducible rfl
 rotate_left
 ·simp only [Act.put,List.setIfInBounds_toArray,List.set_cons_zero,List.set_cons_succ,i64_w,i32_w]
  rfl
 refine take_ (i:=0) (N:=some 11) (v:=?_) (a':=?_) #[true,true,true,true,false,false,false,false,false] rfl rfl (take_ofW HT_.out HW_.out (by kernel_rfl)) (fun _ _ _ h=>h) (Or.inl ⟨by rfl,?_⟩) hHeld ?_ ?_
 rotate_left
 ·rintro w' ⟨s0,s1⟩
  go_simp
  with_reducible rfl
 rotate_left
 ·simp only [Act.put,List.setIfInBounds_toArray,List.set_cons_zero,List.set_cons_succ,i64_w,i32_w]
  rfl
 refine one_ (i:=4) (N:=some 15) #[true,true,true,true,true,false,false,false,false] rfl rfl (one_of HT_.out (by kernel_rfl)) (by decide) (fun K hK=>?_)
 refine goes_ Try.func92 (by kernel_rfl) rfl #[.string a0,.string (⟨#[45]⟩:ByteArray)] (by rfl) rfl rfl (by (try simp only [List.map_toArray,List.map_cons,List.map_nil]);first | done | rfl | (simp only [List.length_drop,List.length_take];rfl)) ?_
 with_reducible refine (strings_Contains.calls a0 (⟨#[45]⟩:ByteArray) t120 _ A4.out).mono ?_
 rintro e w12 ⟨rfl,hb⟩
 refine ⟨_,rfl,?_⟩
 have n0_:=Aside0.mk (blk_below (g:=gb115) (o:=.cells #[.int .i64 0,.string (⟨#[]⟩:ByteArray)] 81 (0,0)) (by (with_reducible repeat (first | refine blk_drewN ?_ _ | refine blk_drew ?_ | refine blk_alloc ?_ _));exact BK115.out) hb)
 have n1_:=Aside0.mk (blk_below (g:=gb119) (o:=.cells #[.int .i64 t116,.string t117] 81 (0,0)) (by (with_reducible repeat (first | refine blk_drewN ?_ _ | refine blk_drew ?_ | refine blk_alloc ?_ _));exact BK119.out) hb)
 have n2_:=Aside0.mk (below_step (by repeat (first | (with_reducible first | exact HB.out | apply below_alloc | apply pw_below_drewN | apply below_drew1 | refine below_set ?_ GE115.out | refine below_set ?_ GE119.out) | exact HB.out)) hb)
 clear BK115
 clear BK119
 clear HB
 have BK115:=n0_
 have BK119:=n1_
 have HB:=n2_
 clear n0_ n1_ n2_
 (try clear hb)
 refine hK.out _ _ ⟨(blk_cell BK119.out 0).trans rfl,(blk_cell BK119.out 1).trans rfl⟩ (fun hHeld=>?_)
 clear hK K
 refine norm_ (a':=?_) ?_ ?_
 rotate_left
 ·show Act.put _ (some 15) _ = _
  simp only [Act.put,List.setIfInBounds_toArray,List.set_cons_zero,List.set_cons_succ,i64_w,i32_w]
  rfl
 refine pure_ (i:=5) (N:=some 16) (v:=?_) (a':=?_) #[true,true,true,true,true,true,false,false,false] rfl rfl (any_of HT_.out (by kernel_rfl)) (fun _ _ _ h=>h) (Or.inl ⟨by rfl,?_⟩) ?_ ?_
 rotate_left
 ·intro w'
  go_simp
  with_reducible rfl
 rotate_left
 ·simp only [Act.put,List.setIfInBounds_toArray,List.set_cons_zero,List.set_cons_succ,i64_w,i32_w]
  rfl
 refine pure_ (i:=6) (N:=some 17) (v:=?_) (a':=?_) #[true,true,true,true,true,true,true,false,false] rfl rfl (any_of HT_.out (by kernel_rfl)) (fun _ _ _ h=>h) (Or.inl ⟨by rfl,?_⟩) ?_ ?_
 rotate_left
 ·intro w'
  go_simp
  with_reducible rfl
 rotate_left
 ·simp only [Act.put,List.setIfInBounds_toArray,List.set_cons_zero,List.set_cons_succ,i64_w,i32_w]
  rfl
 refine one_ (i:=7) (N:=none) #[true,true,true,true,true,true,true,true,false] rfl rfl (one_of HT_.out (by kernel_rfl)) (by decide) (fun K hK=>?_)
 have hs13:w12.cell? ⟨gb115,0,none⟩ = some (.int .i64 0):=(blk_cell BK115.out 0).trans rfl
 have hfs13:=blk_frozen BK115.out 0
 have hns13_1:=NB119_115.out
 have hms13_1:=NB115_119.out
 have hs14:w12.cell? ⟨gb115,1,none⟩ = some (.string (⟨#[]⟩:ByteArray)):=(blk_cell BK115.out 1).trans rfl
 have hfs14:=blk_frozen BK115.out 1
 have hns14_1:=NB119_115.out
 have hms14_1:=NB115_119.out
 refine skip_ (w1:=?_) (by rfl) rfl ?_ ?_
 rotate_left
 ·go_simp
  rfl
 refine hK.out _ _ ⟨((cell_far (p:=⟨gb115,_,none⟩) NB119_115.out _).trans (((cell_far (p:=⟨gb115,_,none⟩) NB119_115.out _).trans (hHeld.1)))),((cell_far (p:=⟨gb115,_,none⟩) NB119_115.out _).trans (((cell_far (p:=⟨gb115,_,none⟩) NB119_115.out _).trans (hHeld.2))))⟩ (fun hHeld=>?_)
 clear hK K
 refine pure_ (i:=8) (N:=some 3) (v:=?_) (a':=?_) #[true,true,true,true,true,true,true,true,true] rfl rfl (any_of HT_.out (by kernel_rfl)) (fun _ _ _ h=>h) (Or.inl ⟨by rfl,?_⟩) ?_ ?_
 rotate_left
 ·intro w'
  go_simp
  with_reducible rfl
 rotate_left
 ·simp only [Act.put,List.setIfInBounds_toArray,List.set_cons_zero,List.set_cons_succ,i64_w,i32_w]
  rfl
 refine done_ (done_of HT_.out (by kernel_rfl)) ?_
 try go_wp2
 refine bodyPost_ret (results_ct rfl _ _ gb115 81 #[.int .i64 t116,.string t117] (0,0) _ rfl (by (with_reducible repeat (first | refine blk_drewN ?_ _ | refine blk_drew ?_ | refine blk_alloc ?_ _));refine blk_put (cs:=#[.int .i64 t116,.string (⟨#[]⟩:ByteArray)]) ?_ 1 _ rfl;(with_reducible repeat (first | refine blk_drewN ?_ _ | refine blk_drew ?_ | refine blk_alloc ?_ _));refine blk_put (cs:=#[.int .i64 0,.string (⟨#[]⟩:ByteArray)]) ?_ 0 _ rfl;(with_reducible repeat (first | refine blk_drewN ?_ _ | refine blk_drew ?_ | refine blk_alloc ?_ _));exact BK115.out) Try.underlying81 rfl (by kernel_rfl)) rfl ?_
 exact ⟨by first | rfl | (simp [errW_none,errW_some] <;> rfl) | (simp [*,errW_none,errW_some] <;> rfl),by repeat (first | (with_reducible first | exact HB.out | apply below_alloc | apply pw_below_drewN | apply below_drew1 | refine below_set ?_ GE115.out | refine below_set ?_ GE119.out) | exact HB.out)⟩
end Go.Proofs.Ythpahlkhiknofaa.G
namespace Go.Proofs.Ythpahlkhiknofaa.G
open Go Go.RowKit Go.Proofs.YthpahlkhiknofaaW.PrintWords Go.Proofs.YthpahlkhiknofaaW.PrintLast Go.Proofs.YthpahlkhiknofaaW.PrintMore
def BR (w:World) (base:Nat) (v:Value) (xs:List Int):Prop :=
  ∃ g cap cur fz,v = .slice (some ⟨g,0,none⟩) xs.length cap ∧ base ≤ g ∧ w.heap[g]? = some (.cells cur 5 fz) ∧ xs.length ≤ fz.1 ∧ xs.length ≤ cap ∧ xs.length ≤ 9223372036854775807 ∧ xs.length ≤ cur.size ∧ ∀ j,j < xs.length → cur[j]? = some (.int .u8 (xs.getD j 0))
section
variable {w w1 W:World} {base g n cap:Nat} {v:Value} {xs:List Int}
theorem BR_below (h:BR w base v xs) (hb:Below w.heap.size w w1):BR w1 base v xs:=by
  obtain ⟨g,cap,cur,fz,h1,h2,h3,h4⟩:=h
  exact ⟨g,cap,cur,fz,h1,h2,by rw [hb.block g (blk_lt h3)];exact h3,h4⟩
theorem BR_alloc (h:BR w base v xs) (o:Obj):BR (w.alloc o) base v xs:=BR_below h (below_alloc (Below.refl _ _) o)
theorem BR_drew (h:BR w base v xs):BR w.drew base v xs:=BR_below h (below_drew (Below.refl _ _))
theorem BR_drewN (h:BR w base v xs) (m:Nat):BR (w.drewN m) base v xs:=BR_below h (pw_below_drewN (Below.refl _ _) m)
theorem BR_lower {base':Nat} (h:BR w base v xs) (hb:base' ≤ base):BR w base' v xs:=by
  obtain ⟨g,cap,cur,fz,h1,h2,h3⟩:=h
  exact ⟨g,cap,cur,fz,h1,Nat.le_trans hb h2,h3⟩
theorem BR_slice (h:BR w base v xs):∃ A c,v = .slice A xs.length c:=by
  obtain ⟨g,cap,_,_,h1,_⟩:=h
  exact ⟨_,_,h1⟩
theorem BR_reads' {A:Option Addr} {n c:Nat} (h:BR w base (.slice A n c) xs):n = xs.length ∧ n ≤ c ∧ Kd.C (Kd.int .u8) w A xs.length xs:=by
  obtain ⟨g,cap,cur,fz,h1,h2,h3,h4,h5,h6,h7,h8⟩:=h
  injection h1 with e1 e2 e3
  subst e1 e2 e3
  refine ⟨rfl,h5,Kd.C_of_reads (d:=0) ⟨rfl,h6,fun _=>⟨_,rfl,fun j hj=>?_⟩⟩⟩
  rw [add_plain,cell_of_row w g j cur 5 fz h3]
  exact h8 j hj
theorem BR_form (h:BR w base v xs) (_hp:0 < xs.length):∃ g cap,v = .slice (some ⟨g,0,none⟩) xs.length cap ∧ base ≤ g ∧ g < w.heap.size ∧ ∃ cells fz,w.heap[g]? = some (.cells cells 5 fz):=by
  obtain ⟨g,cap,cur,fz,h1,h2,h3,_⟩:=h
  exact ⟨g,cap,h1,h2,blk_lt h3,cur,fz,h3⟩
theorem BR_ne (h:BR w base v xs) {g t:Nat} {cells:Array Value} (hb:w.heap[g]? = some (.cells cells t (0,0))) (ht:5 ≠ t):some g ≠ v.ownBlock:=by
  obtain ⟨g',cap,cur,fz,rfl,h2,h3,_⟩:=h
  intro e
  have e2:g = g':=by simpa [Value.ownBlock] using e
  subst e2
  rw [hb] at h3
  injection h3 with h3
  injection h3 with _ h4 _
  exact ht h4.symm
theorem BR_celln (h:BR W base (.slice (some ⟨g,0,none⟩) n cap) xs) (i:Int) (h0:0 ≤ i) (hi:i < n):W.cell? ⟨g,i.toNat,none⟩ = some (.int .u8 (rd xs i)) ∧ W.frozen? ⟨g,i.toNat,none⟩ = false:=by
  obtain ⟨g',cap',cur,fz,h1,h2,h3,h4,h5,h6,h7,h8⟩:=h
  injection h1 with e1 e2 e3
  injection e1 with e1
  injection e1 with e1
  subst e1 e2 e3
  refine ⟨?_,?_⟩
  · rw [cell_of_row W g i.toNat cur 5 fz h3]
    exact h8 _ (by omega)
  · obtain ⟨lo,hi'⟩:=fz
    simp only [World.frozen?,h3]
    have:¬ lo ≤ i.toNat:=by simp only at h4;omega
    simp [this]
theorem BR_putg (h:BR W base (.slice (some ⟨g,0,none⟩) n cap) xs) (i:Int) (x:Int):BR (W.setCell ⟨g,i.toNat,none⟩ (.int .u8 x)) base (.slice (some ⟨g,0,none⟩) n cap) (xs.set i.toNat x) ∧ W.grownBy (W.setCell ⟨g,i.toNat,none⟩ (.int .u8 x)) (some g):=by
  obtain ⟨g',cap',cur,fz,h1,h2,h3,h4,h5,h6,h7,h8⟩:=h
  injection h1 with e1 e2 e3
  injection e1 with e1
  injection e1 with e1
  subst e1 e2 e3
  refine ⟨⟨g,cap,cur.setIfInBounds i.toNat (.int .u8 x),fz,by rw [List.length_set],h2,by simp [World.setCell,Array.getElem?_modify,h3],by rw [List.length_set];exact h4,by rw [List.length_set];exact h5,by rw [List.length_set];exact h6,by rw [List.length_set,Array.size_setIfInBounds];exact h7,fun j hj=>?_⟩,⟨rfl,rfl,rfl,by simp [World.setCell],fun k _ hk=>Below.heap_setCell _ _ _ _ (fun e=>hk (by rw [e]))⟩⟩
  rw [List.length_set] at hj
  rw [Array.getElem?_setIfInBounds]
  by_cases e:i.toNat = j
  · subst e
    rw [if_pos rfl,if_pos (by omega)]
    simp [hj]
  · rw [if_neg e,h8 j hj]
    simp [e]
theorem BR_string {P:Program} {src dst e:TypeId} (hs:P.underlying src = some (.slice e)) (he:P.underlying e = some (.int .u8)) (hd:P.underlying dst = some .string) (h:BR w base v xs):(convert src dst v).run P w = .ok (.string (strOfNums xs)) w:=by
  obtain ⟨g,cap,cur,fz,rfl,h2,h3,h4,h5,h6,h7,h8⟩:=h
  refine run_convert_bytes_arg w src e hs he g 0 xs.length cap xs rfl (fun i hi=>?_) dst hd
  rw [Nat.zero_add,cell_of_row w g i cur 5 fz h3]
  exact h8 i hi
end
section
variable {P:Program} {ops:Array Oper} {rest:List Oper} {o:Oper} {a:Act} {Q:Exit → Act → World → Prop}
/-- The conversion itself. -/
theorem conv_event {W:World} (hgd:o.guard = none) {N:Tmp} (_hd:o.dst = some N) (s:ByteArray) (hsz:s.size ≤ 9223372036854775807)
    (hrun:(execOp a.eval o).run P W = .ok (.value (.slice (some ⟨W.heap.size,0,none⟩) s.size (grownCap W s.size 0 5))) (Lib.bytesWorld W 5 s))
    (hcap:s.size ≤ grownCap W s.size 0 5)
    (h:∀ v w1,BR w1 W.heap.size v (bytesOf s) → Below W.heap.size W w1 → wpList P ops Q rest (a.put o.dst v) w1):wpList P ops Q (o :: rest) a W:=by
  refine Kd.event_run hgd hrun (h _ _ ⟨W.heap.size,grownCap W s.size 0 5,Lib.bytesCells W 5 s,((Lib.bytesCells W 5 s).size,(Lib.bytesCells W 5 s).size + 1),by rw [bytesOf_length],Nat.le_refl _,Lib.bytesWorld_at_new W 5 s,?_,by rw [bytesOf_length];exact hcap,by rw [bytesOf_length];exact hsz,?_,fun j hj=>?_⟩ (bytes_below (Below.refl _ _) (Nat.le_refl _) 5 s))
  · rw [bytesOf_length]
    show s.size ≤ (Lib.bytesCells W 5 s).size
    unfold Lib.bytesCells
    simp
  · rw [bytesOf_length]
    unfold Lib.bytesCells
    simp
  · rw [bytesOf_length] at hj
    have h1:=Lib.bytesWorld_cell W 5 s j hj
    rw [cell_of_row _ _ _ _ _ _ (Lib.bytesWorld_at_new W 5 s)] at h1
    rw [h1]
    have h':j < s.data.toList.length:=by rw [data_length];exact hj
    simp [bytesOf,List.getD_eq_getElem?_getD,List.getElem?_eq_getElem h']
end
end Go.Proofs.Ythpahlkhiknofaa.G
namespace Go.Proofs.Ythpahlkhiknofaa.G
open Go Go.RowKit Go.Proofs.YthpahlkhiknofaaW.PrintWords
def bytes_conv.f (s:ByteArray):Option (List Int):=if s.size ≤ 1000000 then some (bytesOf s) else none
theorem bytes_conv.le {s:ByteArray} {r:List Int} (h:bytes_conv.f s = some r):s.size ≤ 9223372036854775807:=by
 unfold bytes_conv.f at h
 by_cases hs:s.size ≤ 1000000
 ·omega
 rw [if_neg hs] at h;cases h
theorem bytes_conv.eq {s:ByteArray} {r:List Int} (h:bytes_conv.f s = some r):r = bytesOf s:=by
 unfold bytes_conv.f at h
 by_cases hs:s.size ≤ 1000000
 case neg =>
  rw [if_neg hs] at h;cases h
 rw [if_pos hs] at h;exact (Option.some.inj h).symm
end Go.Proofs.Ythpahlkhiknofaa.G
namespace Go.Proofs.Ythpahlkhiknofaa.G
open Go.RowKit Go.Proofs.YthpahlkhiknofaaW.PrintWords Go.Proofs.YthpahlkhiknofaaW.PrintLast Go.Proofs.YthpahlkhiknofaaW.PrintMore
set_option maxHeartbeats 8000000
set_option maxRecDepth 100000
attribute [local go_sem] max2_int min2_int max_two min_two max_three min_three max_four min_four   -- for this text's walks alone
mutual
def card_function_sum.l0:Nat → List Int → Int → Int → Option (ByteArray)
 | 0,_,_,_=>none
 | k + 1,x3,x10,x11=>if x11 < x10 then (card_function_sum.l1 k x3 x11 x10 x11 (x3.length:Int) 0) else (some (strOfNums x3))
def card_function_sum.l1:Nat → List Int → Int → Int → Int → Int → Int → Option (ByteArray)
 | 0,_,_,_,_,_,_=>none
 | k + 1,x3,x4,x10,x11,x15,x16=>if x16 < x15 then (if 0 ≤ x4 then (if (Go.bits .and .i64 (shr .i64 x16 x4) 1) = 1 then (if 0 ≤ (Go.bits .andNot .i64 x16 (shl .i64 1 x4)) then (if (Go.bits .andNot .i64 x16 (shl .i64 1 x4)) < (x3.length:Int) then (if (rd x3 (Go.bits .andNot .i64 x16 (shl .i64 1 x4))) = 49 then (if 0 ≤ x16 then (if x16 < (x3.length:Int) then (card_function_sum.l1 k (x3.set (x16:Int).toNat (Go.bits .xor .u8 (rd x3 x16) 1)) x4 x10 x11 x15 (wrap64 (x16 + 1))) else (none)) else (none)) else (card_function_sum.l1 k x3 x4 x10 x11 x15 (wrap64 (x16 + 1)))) else (none)) else (none)) else (card_function_sum.l1 k x3 x4 x10 x11 x15 (wrap64 (x16 + 1)))) else (none)) else (card_function_sum.l0 k x3 x10 (wrap64 (x11 + 1)))
end
def card_function_sum.f (k:Nat) (a0_0:Int) (a0_1:ByteArray):Option (ByteArray):=(bytes_conv.f a0_1).bind fun t163=>(card_function_sum.l0 k t163 a0_0 0)
theorem card_function_sum.mono_l:∀ k,(∀ y0 y1 y2,LeO (card_function_sum.l0 k y0 y1 y2) (card_function_sum.l0 (k + 1) y0 y1 y2)) ∧ (∀ y0 y1 y2 y3 y4 y5,LeO (card_function_sum.l1 k y0 y1 y2 y3 y4 y5) (card_function_sum.l1 (k + 1) y0 y1 y2 y3 y4 y5))
 | 0=>⟨fun _ _ _ r h=>by simp [card_function_sum.l0] at h,fun _ _ _ _ _ _ r h=>by simp [card_function_sum.l1] at h⟩
 | k + 1=>by
  obtain ⟨ih0,ih1⟩:=card_function_sum.mono_l k
  refine ⟨?_,?_⟩
  ·intro y0 y1 y2
   unfold card_function_sum.l0
   repeat' first
   | (with_reducible exact ih0 _ _ _)
   | (with_reducible exact ih1 _ _ _ _ _ _)
   | (with_reducible exact LeO.refl _)
   | (with_reducible exact LeO.none _)
   | (with_reducible refine LeO.ite ?_ ?_)
   | (with_reducible refine LeO.bind ?_ (fun _=>?_))
   | exact ih0 _ _ _
   | exact ih1 _ _ _ _ _ _
   | exact LeO.none _
   | refine LeO.ite ?_ ?_
   | refine LeO.bind ?_ (fun _=>?_)
  intro y0 y1 y2 y3 y4 y5
  unfold card_function_sum.l1
  repeat' first
  | (with_reducible exact ih0 _ _ _)
  | (with_reducible exact ih1 _ _ _ _ _ _)
  | (with_reducible exact LeO.refl _)
  | (with_reducible exact LeO.none _)
  | (with_reducible refine LeO.ite ?_ ?_)
  | (with_reducible refine LeO.bind ?_ (fun _=>?_))
  | exact ih0 _ _ _
  | exact ih1 _ _ _ _ _ _
  | exact LeO.none _
  | refine LeO.ite ?_ ?_
  | refine LeO.bind ?_ (fun _=>?_)
theorem card_function_sum.mono:∀ a0 a1 k,LeO (card_function_sum.f k a0 a1) (card_function_sum.f (k + 1) a0 a1):=by
 intro a0 a1 k
 obtain ⟨ih0,ih1⟩:=card_function_sum.mono_l k
 unfold card_function_sum.f
 repeat' first
   | (with_reducible exact ih0 _ _ _)
   | (with_reducible exact ih1 _ _ _ _ _ _)
   | (with_reducible exact LeO.refl _)
   | (with_reducible exact LeO.none _)
   | (with_reducible refine LeO.ite ?_ ?_)
   | (with_reducible refine LeO.bind ?_ (fun _=>?_))
   | exact ih0 _ _ _
   | exact ih1 _ _ _ _ _ _
   | exact LeO.none _
   | refine LeO.ite ?_ ?_
   | refine LeO.bind ?_ (fun _=>?_)
theorem card_function_sum.calls (k:Nat) (a0_0:Int) (a0_1:ByteArray) (r:ByteArray) (w:World) (h:card_function_sum.f k a0_0 a0_1 = some r) :
  Calls Try.prog 83 #[.agg #[.int .i64 a0_0,.string a0_1]] w fun e w'=>e = .returned (.string r) ∧ Below w.heap.size w w':=by
 have hu81:=Try.underlying81
 have HB:=Aside0.mk (Below.refl w.heap.size w)
 have H:((bytes_conv.f a0_1).bind fun t163=>(card_function_sum.l0 k t163 a0_0 0)) = some r:=h
 clear h
 replace H:=Option.bind_eq_some_iff.mp H
 obtain ⟨t163,A20,H⟩:=H
 replace H:(card_function_sum.l0 k t163 a0_0 0) = some r:=H
 have A2:=Aside0.mk A20
 clear A20
 have H':=Aside0.mk H
 clear H
 go_enter Try.func83,Try.ntmps83
 go_wp2_with (first | ((with_reducible refine gate_dst (N:=1) rfl ?_);refine box_event ?hg (N:=1) ?hd (cs:=#[.int .i64 a0_0,.string a0_1]) (t:=81) ?hr ?_;(case hd=>rfl);(case hg=>rfl);(case hr=>first | (go_simp;done) | (go_simp;rfl));intro gb162 hg w3 hbox hb;have n0_:=Aside0.mk (below_step (by repeat (first | (with_reducible first | exact HB.out | apply below_alloc | apply pw_below_drewN | apply below_drew1) | exact HB.out)) hb);have n1_:=Aside0.mk (hbox);have n2_:=Aside0.mk ((by rw [hg];exact (below_size (by repeat (first | (with_reducible first | exact HB.out | apply below_alloc | apply pw_below_drewN | apply below_drew1) | exact HB.out))):w.heap.size ≤ gb162));have n3_:=Aside0.mk ((by rw [hg];exact (below_size (by repeat (first | (with_reducible first | exact HB.out | apply below_alloc | apply pw_below_drewN | apply below_drew1) | exact HB.out))):w.heap.size ≤ gb162));clear HB;have HB:=n0_;have BK162:=n1_;have GW162:=n2_;have GE162:=n3_;clear n0_ n1_ n2_ n3_;clear hb hbox hg;have hcz4_0:w3.cell? ⟨gb162,0,none⟩ = some (.int .i64 a0_0):=(blk_cell BK162.out 0).trans rfl;have hcz4_1:w3.cell? ⟨gb162,1,none⟩ = some (.string a0_1):=(blk_cell BK162.out 1).trans rfl;have hfz4_0:=blk_frozen BK162.out 0;have hfz4_1:=blk_frozen BK162.out 1) | ((with_reducible refine gate_dst (N:=8) rfl ?_);refine conv_event ?hg (N:=8) ?hd a0_1 (bytes_conv.le A2.out) ?hr (grownCap_ge _ _ _ _) ?_;(case hd=>rfl);(case hg=>rfl);(case hr=>first | (go_simp;done) | (go_simp;rfl) | (go_simp;rw [print_bytes 9 42 5 Try.underlying9 Try.underlying42 Try.underlying5];rfl));intro v164 w5 ho0 hb;rw [← bytes_conv.eq A2.out] at ho0;have n0_:=Aside0.mk (BR_lower ho0 (below_size (by repeat (first | (with_reducible first | exact HB.out | apply below_alloc | apply pw_below_drewN | apply below_drew1 | refine below_set ?_ GE162.out) | exact HB.out))));have n1_:=Aside0.mk (blk_below (g:=gb162) (o:=.cells #[.int .i64 a0_0,.string a0_1] 81 (0,0)) (by (with_reducible repeat (first | refine blk_drewN ?_ _ | refine blk_drew ?_ | refine blk_alloc ?_ _));exact BK162.out) hb);have n2_:=Aside0.mk (below_step (by repeat (first | (with_reducible first | exact HB.out | apply below_alloc | apply pw_below_drewN | apply below_drew1 | refine below_set ?_ GE162.out) | exact HB.out)) hb);clear BK162;clear HB;have HO165:=n0_;have BK162:=n1_;have HB:=n2_;clear n0_ n1_ n2_;(try clear hb);(try clear ho0);have hcz6_0:w5.cell? ⟨gb162,0,none⟩ = some (.int .i64 a0_0):=(blk_cell BK162.out 0).trans rfl;have hcz6_1:w5.cell? ⟨gb162,1,none⟩ = some (.string a0_1):=(blk_cell BK162.out 1).trans rfl;have hfz6_0:=blk_frozen BK162.out 0;have hfz6_1:=blk_frozen BK162.out 1))
 go_loopg [11] k (fun kq v11 w'=>∃ (x3_1:List Int) (x11_1:Int),v11 = .int .i64 x11_1 ∧ Aside0 (card_function_sum.l0 kq x3_1 a0_0 x11_1 = some r) ∧ Aside0 (kq ≤ k) ∧ Aside0 (BR w' w.heap.size v164 x3_1) ∧ Aside0 (w'.heap[gb162]? = some (.cells #[.int .i64 a0_0,.string a0_1] 81 (0,0))) ∧ Aside0 (Below w.heap.size w w'))
 case atStart=>exact ⟨(t163),(0),(by first | rfl | (simp;done) | (simp [*];done)),H',⟨Nat.le_refl _⟩,⟨by (with_reducible repeat (first | apply BR_alloc | apply BR_drewN | apply BR_drew));exact HO165.out⟩,⟨by (with_reducible repeat (first | refine blk_drewN ?_ _ | refine blk_drew ?_ | refine blk_alloc ?_ _));exact BK162.out⟩,⟨by repeat (first | (with_reducible first | exact HB.out | apply below_alloc | apply pw_below_drewN | apply below_drew1 | refine below_set ?_ GE162.out) | exact HB.out)⟩⟩
 case round =>
  clear H'
  try clear p2
  try clear hcz4_0
  try clear hcz4_1
  try clear hcz6_0
  try clear hcz6_1
  try clear hfz4_0
  try clear hfz4_1
  try clear hfz6_0
  try clear hfz6_1
  obtain ⟨x3_1,x11_1,rfl,HA,HK1,HO_3,BK162,HB⟩:=hrel
  cases gk with
  | zero=>exact absurd HA.out (by simp [card_function_sum.l0])
  | succ k1 =>
   have H:=HA.out
   clear HA
   simp only [card_function_sum.l0] at H
   by_cases c7:x11_1 < a0_0
   case neg =>
    rw [if_neg c7] at H
    have c7b0:decide (x11_1 < a0_0) = false:=decide_eq_false c7
    clear c7
    obtain rfl:=Option.some.inj H
    have hcv23:=BR_string (P:=Try.prog) Try.underlying42 Try.underlying5 Try.underlying9 HO_3.out
    go_wp2
    go_ret
    exact ⟨by first | rfl | (simp [errW_none,errW_some] <;> rfl) | (simp [*,errW_none,errW_some] <;> rfl),by repeat (first | (with_reducible first | exact HB.out | apply below_alloc | apply pw_below_drewN | apply below_drew1 | refine below_set ?_ GE162.out) | exact HB.out)⟩
   rw [if_pos c7] at H
   have c7b0:decide (x11_1 < a0_0) = true:=decide_eq_true c7
   clear c7
   have H':=Aside0.mk H
   clear H
   obtain ⟨Ao8,co8,eo8⟩:=BR_slice HO_3.out
   subst eo8
   go_wp2
   go_loopg [16] k1 (fun kq v16 w'=>∃ (x3_2:List Int) (x16_2:Int),v16 = .int .i64 x16_2 ∧ Aside0 (card_function_sum.l1 kq x3_2 x11_1 a0_0 x11_1 (x3_1.length:Int) x16_2 = some r) ∧ Aside0 (kq ≤ k1) ∧ Aside0 (BR w' w.heap.size (.slice Ao8 x3_1.length co8) x3_2) ∧ Aside0 (w'.heap[gb162]? = some (.cells #[.int .i64 a0_0,.string a0_1] 81 (0,0))) ∧ Aside0 (Below w.heap.size w w'))
   case atStart=>exact ⟨(x3_1),(0),(by first | rfl | (simp;done) | (simp [*];done)),H',⟨Nat.le_refl _⟩,⟨by (with_reducible repeat (first | apply BR_alloc | apply BR_drewN | apply BR_drew));exact HO_3.out⟩,⟨by (with_reducible repeat (first | refine blk_drewN ?_ _ | refine blk_drew ?_ | refine blk_alloc ?_ _));exact BK162.out⟩,⟨by repeat (first | (with_reducible first | exact HB.out | apply below_alloc | apply pw_below_drewN | apply below_drew1 | refine below_set ?_ GE162.out) | exact HB.out)⟩⟩
   case round =>
    clear H'
    try clear p2
    try clear c7
    try clear c7b0
    try clear c8
    try clear hcz4_0
    try clear hcz4_1
    try clear hcz6_0
    try clear hcz6_1
    try clear hfz4_0
    try clear hfz4_1
    try clear hfz6_0
    try clear hfz6_1
    try clear p2
    obtain ⟨x3_2,x16_2,rfl,HA,HK2,HO_3,BK162,HB⟩:=hrel
    have hl3_2:=(BR_reads' HO_3.out).1
    rw [hl3_2] at HO_3
    (try simp only [hl3_2])
    (try simp only [hl3_2] at BK162)
    cases gk with
    | zero=>exact absurd HA.out (by simp [card_function_sum.l1])
    | succ k2 =>
     have H:=HA.out
     clear HA
     simp only [card_function_sum.l1] at H
     by_cases c9:x16_2 < (x3_1.length:Int)
     case neg =>
      rw [if_neg c9] at H
      have c9b0:decide (x16_2 < (x3_1.length:Int)) = false:=decide_eq_false c9
      (try rw [hl3_2] at c9b0)
      clear c9
      have H':=Aside0.mk H
      clear H
      go_wp2
      (try simp only [← hl3_2])
      go_roundg k2
      case measure=>have:=HK1.out;have:=HK2.out;omega
      case rel=>exact ⟨(x3_2),(wrap64 (x11_1 + 1)),(by first | rfl | (simp;done) | (simp [*];done)),H',⟨by have:=HK1.out;have:=HK2.out;omega⟩,⟨by (try simp only [hl3_2]);(with_reducible repeat (first | apply BR_alloc | apply BR_drewN | apply BR_drew));exact HO_3.out⟩,⟨by (try simp only [hl3_2]);(with_reducible repeat (first | refine blk_drewN ?_ _ | refine blk_drew ?_ | refine blk_alloc ?_ _));exact BK162.out⟩,⟨by repeat (first | (with_reducible first | exact HB.out | apply below_alloc | apply pw_below_drewN | apply below_drew1 | refine below_set ?_ GE162.out) | exact HB.out)⟩⟩
     rw [if_pos c9] at H
     have c9b0:decide (x16_2 < (x3_1.length:Int)) = true:=decide_eq_true c9
     (try rw [hl3_2] at c9b0)
     clear c9
     by_cases c10:0 ≤ x11_1
     case neg =>
      rw [if_neg c10] at H
      exact absurd H (by simp)
     rw [if_pos c10] at H
     have c10b0:=eq_true c10
     have c10b1:decide (0 ≤ x11_1) = true:=decide_eq_true c10
     clear c10
     obtain ⟨ji11,hji11⟩:∃ j_:Int,(shr .i64 x16_2 x11_1) = j_:=⟨_,rfl⟩
     replace H:(if (Go.bits .and .i64 (ji11) 1) = 1 then (if 0 ≤ (Go.bits .andNot .i64 x16_2 (shl .i64 1 x11_1)) then (if (Go.bits .andNot .i64 x16_2 (shl .i64 1 x11_1)) < (x3_2.length:Int) then (if (rd x3_2 (Go.bits .andNot .i64 x16_2 (shl .i64 1 x11_1))) = 49 then (if 0 ≤ x16_2 then (if x16_2 < (x3_2.length:Int) then (card_function_sum.l1 k2 (x3_2.set (x16_2:Int).toNat (Go.bits .xor .u8 (rd x3_2 x16_2) 1)) x11_1 a0_0 x11_1 (x3_1.length:Int) (wrap64 (x16_2 + 1))) else (none)) else (none)) else (card_function_sum.l1 k2 x3_2 x11_1 a0_0 x11_1 (x3_1.length:Int) (wrap64 (x16_2 + 1)))) else (none)) else (none)) else (card_function_sum.l1 k2 x3_2 x11_1 a0_0 x11_1 (x3_1.length:Int) (wrap64 (x16_2 + 1)))) = some r:=by first | (rw [hji11] at H;exact H) | (simp only [hji11] at H ⊢;exact H)
     have hji11_:(x16_2 / 2 ^ min x11_1.toNat 64) = ji11:=hji11
     have hji11z:x11_1 ≤ 64 → (x16_2 / 2 ^ x11_1.toNat) = ji11:=shr_small hji11
     by_cases c12:(Go.bits .and .i64 (ji11) 1) = 1
     case neg =>
      rw [if_neg c12] at H
      have c12b0:((Go.bits .and .i64 (ji11) 1) == 1) = false:=beq_eq_false_iff_ne.mpr c12
      have c12b1:((Go.bits .and .i64 (ji11) 1) != 1) = true:=bne_iff_ne.mpr c12
      have H':=Aside0.mk H
      clear H
      go_wp2
      (try simp only [← hl3_2])
      go_roundg k2
      case measure=>have:=HK1.out;have:=HK2.out;omega
      case rel=>exact ⟨(x3_2),(wrap64 (x16_2 + 1)),(by first | rfl | (simp;done) | (simp [*];done)),H',⟨by have:=HK1.out;have:=HK2.out;omega⟩,⟨by (try simp only [hl3_2]);(with_reducible repeat (first | apply BR_alloc | apply BR_drewN | apply BR_drew));exact HO_3.out⟩,⟨by (try simp only [hl3_2]);(with_reducible repeat (first | refine blk_drewN ?_ _ | refine blk_drew ?_ | refine blk_alloc ?_ _));exact BK162.out⟩,⟨by repeat (first | (with_reducible first | exact HB.out | apply below_alloc | apply pw_below_drewN | apply below_drew1 | refine below_set ?_ GE162.out) | exact HB.out)⟩⟩
     rw [if_pos c12] at H
     have c12b0:((Go.bits .and .i64 (ji11) 1) == 1) = true:=beq_iff_eq.mpr c12
     have c12b1:((Go.bits .and .i64 (ji11) 1) != 1) = false:=bne_eq_false_iff_eq.mpr c12
     clear c12
     have c13b0:=eq_true (of_decide_eq_true (by first | (with_reducible assumption) | assumption):0 ≤ x11_1)
     obtain ⟨ji14,hji14⟩:∃ j_:Int,(shl .i64 1 x11_1) = j_:=⟨_,rfl⟩
     replace H:(if 0 ≤ (Go.bits .andNot .i64 x16_2 (ji14)) then (if (Go.bits .andNot .i64 x16_2 (ji14)) < (x3_2.length:Int) then (if (rd x3_2 (Go.bits .andNot .i64 x16_2 (ji14))) = 49 then (if 0 ≤ x16_2 then (if x16_2 < (x3_2.length:Int) then (card_function_sum.l1 k2 (x3_2.set (x16_2:Int).toNat (Go.bits .xor .u8 (rd x3_2 x16_2) 1)) x11_1 a0_0 x11_1 (x3_1.length:Int) (wrap64 (x16_2 + 1))) else (none)) else (none)) else (card_function_sum.l1 k2 x3_2 x11_1 a0_0 x11_1 (x3_1.length:Int) (wrap64 (x16_2 + 1)))) else (none)) else (none)) = some r:=by first | (rw [hji14] at H;exact H) | (simp only [hji14] at H ⊢;exact H)
     have hji14_:(IntKind.i64.wrap (1 * 2 ^ min x11_1.toNat 64)) = ji14:=hji14
     have hji14z:x11_1 ≤ 64 → (IntKind.i64.wrap (1 * 2 ^ x11_1.toNat)) = ji14:=shl_small hji14
     have hji14u:(IntKind.i64.wrap (2 ^ min x11_1.toNat 64)) = ji14:=by have h_:=hji14_;rw [Int.one_mul] at h_;exact h_
     have hji14v:x11_1 ≤ 64 → (IntKind.i64.wrap (2 ^ x11_1.toNat)) = ji14:=fun hle_=>by have h_:=hji14z hle_;rw [Int.one_mul] at h_;exact h_
     have hji14y:(wrap64 (1 * 2 ^ min x11_1.toNat 64)) = ji14:=(i64_w _).symm.trans hji14_
     have hji14x:x11_1 ≤ 64 → (wrap64 (1 * 2 ^ x11_1.toNat)) = ji14:=fun h_=>(i64_w _).symm.trans (hji14z h_)
     by_cases c15:0 ≤ (Go.bits .andNot .i64 x16_2 (ji14))
     case neg =>
      rw [if_neg c15] at H
      exact absurd H (by simp)
     rw [if_pos c15] at H
     have c15b0:decide (0 ≤ (Go.bits .andNot .i64 x16_2 (ji14))) = true:=decide_eq_true c15
     clear c15
     by_cases c16:(Go.bits .andNot .i64 x16_2 (ji14)) < (x3_2.length:Int)
     case neg =>
      rw [if_neg c16] at H
      exact absurd H (by simp)
     rw [if_pos c16] at H
     have c16b0:decide ((Go.bits .andNot .i64 x16_2 (ji14)) < (x3_2.length:Int)) = true:=decide_eq_true c16
     clear c16
     by_cases c17:(rd x3_2 (Go.bits .andNot .i64 x16_2 (ji14))) = 49
     case neg =>
      rw [if_neg c17] at H
      have c17b0:((rd x3_2 (Go.bits .andNot .i64 x16_2 (ji14))) == 49) = false:=beq_eq_false_iff_ne.mpr c17
      have c17b1:((rd x3_2 (Go.bits .andNot .i64 x16_2 (ji14))) != 49) = true:=bne_iff_ne.mpr c17
      have H':=Aside0.mk H
      clear H
      have p166:0 ≤ ((Go.bits .andNot .i64 x16_2 (ji14)):Int):=of_decide_eq_true (by first | (with_reducible assumption) | assumption)
      have q166:(Go.bits .andNot .i64 x16_2 (ji14)) < (x3_2.length:Int):=of_decide_eq_true (by first | (with_reducible assumption) | assumption)
      obtain ⟨ad166,e166,hx166_0⟩:=Kd.at_int (BR_reads' HO_3.out).2.2 (Go.bits .andNot .i64 x16_2 (ji14)) p166 q166
      cases e166
      replace p166:=eq_true p166
      replace q166:=eq_true q166
      go_wp2
      (try simp only [← hl3_2])
      go_roundg k2
      case measure=>have:=HK1.out;have:=HK2.out;omega
      case rel=>exact ⟨(x3_2),(wrap64 (x16_2 + 1)),(by first | rfl | (simp;done) | (simp [*];done)),H',⟨by have:=HK1.out;have:=HK2.out;omega⟩,⟨by (try simp only [hl3_2]);(with_reducible repeat (first | apply BR_alloc | apply BR_drewN | apply BR_drew));exact HO_3.out⟩,⟨by (try simp only [hl3_2]);(with_reducible repeat (first | refine blk_drewN ?_ _ | refine blk_drew ?_ | refine blk_alloc ?_ _));exact BK162.out⟩,⟨by repeat (first | (with_reducible first | exact HB.out | apply below_alloc | apply pw_below_drewN | apply below_drew1 | refine below_set ?_ GE162.out) | exact HB.out)⟩⟩
     rw [if_pos c17] at H
     have c17b0:((rd x3_2 (Go.bits .andNot .i64 x16_2 (ji14))) == 49) = true:=beq_iff_eq.mpr c17
     have c17b1:((rd x3_2 (Go.bits .andNot .i64 x16_2 (ji14))) != 49) = false:=bne_eq_false_iff_eq.mpr c17
     clear c17
     by_cases c18:0 ≤ x16_2
     case neg =>
      rw [if_neg c18] at H
      exact absurd H (by simp)
     rw [if_pos c18] at H
     have c18b0:decide (0 ≤ x16_2) = true:=decide_eq_true c18
     clear c18
     by_cases c19:x16_2 < (x3_2.length:Int)
     case neg =>
      rw [if_neg c19] at H
      exact absurd H (by simp)
     rw [if_pos c19] at H
     have c19b0:decide (x16_2 < (x3_2.length:Int)) = true:=decide_eq_true c19
     clear c19
     obtain ⟨y168,hy168⟩:∃ y_:List Int,y_ = (x3_2.set (x16_2:Int).toNat (Go.bits .xor .u8 (rd x3_2 x16_2) 1)):=⟨_,rfl⟩
     replace H:(card_function_sum.l1 k2 y168 x11_1 a0_0 x11_1 (x3_1.length:Int) (wrap64 (x16_2 + 1))) = some r:=by first | (rw [hy168];with_reducible exact H) | (have H2_:=(Option.bind_some _ _).symm.trans H;rw [hy168];with_reducible exact H2_) | (have H2_:=(Option.bind_some _ _).symm.trans H;with_reducible exact H2_) | with_reducible exact H | (rw [hy168];exact H) | exact H
     have Ny168:=Aside0.mk hy168
     clear hy168
     have H':=Aside0.mk H
     clear H
     have p166:0 ≤ ((Go.bits .andNot .i64 x16_2 (ji14)):Int):=of_decide_eq_true (by first | (with_reducible assumption) | assumption)
     have q166:(Go.bits .andNot .i64 x16_2 (ji14)) < (x3_2.length:Int):=of_decide_eq_true (by first | (with_reducible assumption) | assumption)
     obtain ⟨ad166,e166,hx166_0⟩:=Kd.at_int (BR_reads' HO_3.out).2.2 (Go.bits .andNot .i64 x16_2 (ji14)) p166 q166
     cases e166
     replace p166:=eq_true p166
     replace q166:=eq_true q166
     have p167:0 ≤ (x16_2:Int):=of_decide_eq_true (by first | (with_reducible assumption) | assumption)
     have q167:x16_2 < (x3_2.length:Int):=of_decide_eq_true (by first | (with_reducible assumption) | assumption)
     obtain ⟨ad167,e167,hx167_0⟩:=Kd.at_int (BR_reads' HO_3.out).2.2 x16_2 p167 q167
     obtain rfl:ad166 = ad167:=(by injection e167)
     replace p167:=eq_true p167
     replace q167:=eq_true q167
     have p20:0 ≤ (x16_2:Int):=of_decide_eq_true (by first | (with_reducible assumption) | assumption)
     have q20:(x16_2:Int) < ((x3_2.length:Int):Int):=of_decide_eq_true (by first | (with_reducible assumption) | assumption)
     obtain ⟨go20,co20,eo20,gb20,gl20,cl20,HG20⟩:=BR_form HO_3.out (by omega)
     (first | cases eo20 | (injection eo20 with ea_ en_ ec_;(first | subst ea_ | (injection ea_ with ea_;subst ea_));subst ec_;clear en_))
     have GB20:=Aside0.mk gb20
     have GG20:=Aside0.mk HG20
     clear gb20 gl20 HG20
     (first | simp only [add_plain] at hx166_0 | skip)
     (first | simp only [add_plain] at hx167_0 | skip)
     obtain ⟨hx20_0,hf20_0⟩:=BR_celln HO_3.out (x16_2:Int) p20 q20
     replace p20:=eq_true p20
     replace q20:=eq_true q20
     have HP21:=BR_putg HO_3.out (x16_2:Int) (Go.bits .xor .u8 (rd x3_2 x16_2) 1)
     go_wp2_with (first | ((with_reducible refine gate_store (t:=5) (p:=39) rfl ?_);refine store_event (t:=5) (p:=39) (v:=?vo_w22) (w1:=(wr.setCell ⟨go20,(x16_2:Int).toNat,none⟩ (.int .u8 (Go.bits .xor .u8 (rd x3_2 x16_2) 1)))) ?hg ?ho ?hn ?hr ?_;(case ho=>rfl);(case hg=>rfl);(case hn=>rfl);(case hr=>first | (go_simp;done) | (go_simp;rfl));intro w22 hw;have hg:wr.grownBy w22 (some go20):=(by rw [hw];exact HP21.2);have hp_:BR w22 w.heap.size (.slice (some ⟨go20,0,none⟩) x3_2.length co8) y168:=(by rw [hw,Ny168.out];exact HP21.1);clear HP21;have n0_:=Aside0.mk (hp_);have n1_:=Aside0.mk (blk_grown (g:=gb162) (o:=.cells #[.int .i64 a0_0,.string a0_1] 81 (0,0)) (by (with_reducible repeat (first | refine blk_drewN ?_ _ | refine blk_drew ?_ | refine blk_alloc ?_ _));exact BK162.out) hg (BR_ne HO_3.out BK162.out (by decide)));have n2_:=Aside0.mk ((by rw [hw];exact below_set (HB.out) GB20.out:Below w.heap.size w w22));clear HO_3;clear BK162;clear HB;have HO_3:=n0_;have BK162:=n1_;have HB:=n2_;clear n0_ n1_ n2_;clear hg hw hp_))
     (try simp only [← hl3_2])
     go_roundg k2
     case measure=>have:=HK1.out;have:=HK2.out;omega
     case rel=>exact ⟨(y168),(wrap64 (x16_2 + 1)),(by first | rfl | (simp;done) | (simp [*];done)),H',⟨by have:=HK1.out;have:=HK2.out;omega⟩,⟨by (try simp only [hl3_2]);(with_reducible repeat (first | apply BR_alloc | apply BR_drewN | apply BR_drew));exact HO_3.out⟩,⟨by (try simp only [hl3_2]);(with_reducible repeat (first | refine blk_drewN ?_ _ | refine blk_drew ?_ | refine blk_alloc ?_ _));exact BK162.out⟩,⟨by repeat (first | (with_reducible first | exact HB.out | apply below_alloc | apply pw_below_drewN | apply below_drew1 | refine below_set ?_ GE162.out) | exact HB.out)⟩⟩
end Go.Proofs.Ythpahlkhiknofaa.G
set_option linter.unusedSectionVars false
namespace Go.Proofs.Ythpahlkhiknofaa.P
open Go Go.RowKit Go.Proofs.Ythpahlkhiknofaa.M Go.Proofs.Ythpahlkhiknofaa.G
open Go.Proofs.YthpahlkhiknofaaW.PrintWords Go.Proofs.YthpahlkhiknofaaW.PrintMore
/-- A total function. -/
def totB (c:ByteArray):Bool:=decide (fnN c ≠ 0) && noH c
theorem newT {c:ByteArray} (hc:c.size ≤ 40):∃ m:Int,(totB c = true → m = (fnN c:Int)) ∧ card_newTotal.f c = some (m,c,totB c):=by
  obtain ⟨m,hm,e⟩:=newF hc
  refine ⟨m,fun h=>hm (by unfold totB at h;rw [Bool.and_eq_true,decide_eq_true_eq] at h;exact h.1),?_⟩
  unfold card_newTotal.f
  rw [e,Option.bind_some]
  unfold totB
  by_cases h:fnN c ≠ 0
  · rw [decide_eq_true h,Bool.true_and,if_pos rfl]
    unfold strings_Contains.f
    rw [if_pos rfl,Option.bind_some,Bool.not_not]
  · rw [decide_eq_false h,Bool.false_and,if_neg (show ¬ (false = true) by decide)]
/-- What is known of a total function. -/
structure Tot (c:ByteArray) (n:Nat):Prop where
  n1:1 ≤ n
  n5:n ≤ 5
  size:c.size = 2 ^ n
  le:c.size ≤ 32
  val:∀ p,p < c.size → bt c (p:Int) = 48 ∨ bt c (p:Int) = 49
theorem tot_of {c:ByteArray} (hc:c.size ≤ 40) (h:totB c = true):Tot c (fnN c):=by
  unfold totB at h
  rw [Bool.and_eq_true,decide_eq_true_eq] at h
  obtain ⟨h1,h2,h3,h4,h5⟩:=fnN_pos hc h.1
  refine ⟨h3,h4,h2,h5,fun p hp=>?_⟩
  have a:=(allF_iff _ _ _).1 h1 p (by omega) (by omega)
  have b:=(allF_iff _ _ _).1 h.2 p (by omega) (by omega)
  unfold isC at a
  simp only [decide_eq_true_eq] at a b
  omega
def par (P:Nat → Bool):Nat → Bool
  | 0=>false
  | k + 1=>par P k ^^ P k
theorem par_xor (P Q:Nat → Bool):∀ k,par (fun q=>P q ^^ Q q) k = (par P k ^^ par Q k)
  | 0=>rfl
  | k + 1=>by
    rw [par,par,par,par_xor P Q k]
    cases par P k <;> cases par Q k <;> cases P k <;> cases Q k <;> rfl
theorem par_congr {P Q:Nat → Bool}:∀ {k},(∀ q,q < k → P q = Q q) → par P k = par Q k
  | 0,_=>rfl
  | k + 1,h=>by rw [par,par,par_congr fun q hq=>h q (by omega),h k (by omega)]
theorem par_none {P:Nat → Bool}:∀ {k},(∀ q,q < k → P q = false) → par P k = false
  | 0,_=>rfl
  | k + 1,h=>by rw [par,par_none fun q hq=>h q (by omega),h k (by omega)];rfl
theorem par_one {P:Nat → Bool} {p:Nat}:∀ {k},p < k → (∀ q,q < k → q ≠ p → P q = false) → par P k = P p
  | 0,h,_=>by omega
  | k + 1,h,hq=>by
    rw [par]
    by_cases e:p = k
    · subst e
      rw [par_none fun q hq2=>hq q (by omega) (by omega)]
      cases P p <;> rfl
    · rw [par_one (p:=p) (by omega) fun q h1 h2=>hq q (by omega) h2,hq k (by omega) (fun h=>e h.symm)]
      cases P p <;> rfl
def vB (c:ByteArray) (q:Nat):Bool:=decide (bt c (q:Int) = 49)
def tB (i q p:Nat):Bool:=(andNot q p == 0) && (q >>> i == p >>> i)
theorem tB_step:∀ (i:Fin 5) (q p:Fin 32),tB (i.val + 1) q.val p.val = (tB i.val q.val p.val ^^ (p.val.testBit i.val && tB i.val q.val (andNot p.val (2 ^ i.val)))):=by decide +kernel
theorem tB_zero:∀ (q p:Fin 32),tB 0 q.val p.val = (q.val == p.val):=by decide +kernel
theorem andNot_small:∀ (i:Fin 5) (p:Fin 32),andNot p.val (2 ^ i.val) ≤ p.val ∧ (p.val.testBit i.val = true → andNot p.val (2 ^ i.val) < p.val) ∧ (andNot p.val (2 ^ i.val)).testBit i.val = false:=by decide +kernel
def sumA (c:ByteArray):Nat → Nat → Bool
  | 0,p=>vB c p
  | i + 1,p=>sumA c i p ^^ (p.testBit i && sumA c i (andNot p (2 ^ i)))
section
variable {c:ByteArray} {n:Nat} (hT:Tot c n)
include hT
def dig (b:Bool):Int:=if b then 49 else 48
def tabI (m:Nat) (f:Nat → Int):List Int:=(List.range m).map f
omit hT in
theorem tabI_len (m:Nat) (f:Nat → Int):(tabI m f).length = m:=by simp [tabI]
omit hT in
theorem tabI_rd {m:Nat} {f:Nat → Int} {i:Nat} (h:i < m):rd (tabI m f) (i:Int) = f i:=by
  rw [rd_get (by rw [tabI_len];exact h)];simp [tabI]
omit hT in
theorem tabI_set {m:Nat} {f:Nat → Int} {i:Nat} (y:Int):(tabI m f).set i y = tabI m (fun v=>if v = i then y else f v):=by
  apply List.ext_getElem
  · simp [tabI]
  · intro j h1 h2
    rw [List.getElem_set]
    simp only [tabI,List.getElem_map,List.getElem_range]
    by_cases e:i = j
    · rw [if_pos e,if_pos e.symm]
    · rw [if_neg e,if_neg (fun h=>e h.symm)]
omit hT in
theorem tabI_congr {m:Nat} {f g:Nat → Int} (h:∀ v,v < m → f v = g v):tabI m f = tabI m g:=List.map_congr_left fun v hv=>h v (List.mem_range.1 hv)
def stage (c:ByteArray) (i p q:Nat):Int:=dig (sumA c (if q < p then i + 1 else i) q)
theorem sum_l1 {i:Nat} (hi:i < n) {v:ByteArray} (hv:Ev (fun k=>card_function_sum.l0 k (tabI c.size fun q=>dig (sumA c (i + 1) q)) (n:Int) ((i + 1:Nat):Int)) v):∀ d p,p + d = c.size → Ev (fun k=>card_function_sum.l1 k (tabI c.size (stage c i p)) (i:Int) (n:Int) (i:Int) (c.size:Int) (p:Int)) v:=by
  have h5:=hT.n5
  have hle:=hT.le
  intro d
  induction d with
  | zero =>
    intro p hp
    obtain rfl:p = c.size:=by omega
    have e:tabI c.size (stage c i c.size) = tabI c.size fun q=>dig (sumA c (i + 1) q):=tabI_congr fun q hq=>by unfold stage;rw [if_pos hq]
    rw [e]
    refine Ev.step (fun k=>?_) hv
    rw [card_function_sum.l1,if_neg (by omega),wrap_succ (by omega)]
  | succ d ih =>
    intro p hp
    have hpl:p < c.size:=by omega
    have hnx:=ih (p + 1) (by omega)
    obtain ⟨a1,a2,a3⟩:=andNot_small ⟨i,by omega⟩ ⟨p,by omega⟩
    simp only at a1 a2 a3
    have h2i:2 ^ i ≤ 16:=by
      have:2 ^ i ≤ 2 ^ 4:=Nat.pow_le_pow_right (by decide) (by omega)
      omega
    have hpw:p >>> i < 2 ^ 60:=Nat.lt_of_le_of_lt (by rw [Nat.shiftRight_eq_div_pow];exact Nat.div_le_self _ _) (show p < 2 ^ 60 by omega)
    have hbit:Go.bits .and .i64 (shr .i64 (p:Int) (i:Int)) 1 = if p.testBit i = true then 1 else 0:=by
      rw [shr_nat (by omega),and_one _ hpw,Nat.testBit_eq_decide_div_mod_eq,← Nat.shiftRight_eq_div_pow]
      rcases Nat.mod_two_eq_zero_or_one (p >>> i) with h | h <;> simp [h]
    have hidx:Go.bits .andNot .i64 (p:Int) (shl .i64 1 (i:Int)) = ((andNot p (2 ^ i):Nat):Int):=by
      rw [shl_one (by omega)];exact ni_andNot p (2 ^ i) (by omega)
    have same:sumA c (i + 1) p = sumA c i p → tabI c.size (stage c i p) = tabI c.size (stage c i (p + 1)):=fun h=>tabI_congr fun q hq=>by
      unfold stage
      by_cases e:q = p
      · subst e
        rw [if_neg (by omega),if_pos (by omega),h]
      · by_cases h1:q < p
        · rw [if_pos h1,if_pos (by omega)]
        · rw [if_neg h1,if_neg (by omega)]
    refine Ev.step (fun k=>by rw [card_function_sum.l1,if_pos (by omega),if_pos (by omega),hbit,hidx,wrap_succ (by omega),tabI_len]) ?_
    by_cases hb:p.testBit i = true
    · rw [if_pos hb]
      refine Ev.congr (fun k=>if_pos rfl) (Ev.congr (fun k=>if_pos (by omega)) (Ev.congr (fun k=>if_pos (by omega)) ?_))
      have hlt:=a2 hb
      have hr:rd (tabI c.size (stage c i p)) ((andNot p (2 ^ i):Nat):Int) = dig (sumA c i (andNot p (2 ^ i))):=by
        rw [tabI_rd (by omega)]
        unfold stage
        rw [if_pos hlt,sumA,a3,Bool.false_and,Bool.xor_false]
      have hr2:rd (tabI c.size (stage c i p)) (p:Int) = dig (sumA c i p):=by
        rw [tabI_rd hpl]
        unfold stage
        rw [if_neg (by omega)]
      rw [hr]
      by_cases hA:sumA c i (andNot p (2 ^ i)) = true
      · rw [hA]
        refine Ev.congr (fun k=>if_pos rfl) (Ev.congr (fun k=>if_pos (by omega)) (Ev.congr (fun k=>if_pos (by omega)) ?_))
        have e:(tabI c.size (stage c i p)).set ((p:Int)).toNat (Go.bits .xor .u8 (rd (tabI c.size (stage c i p)) (p:Int)) 1) = tabI c.size (stage c i (p + 1)):=by
          rw [Int.toNat_natCast,hr2,tabI_set]
          refine tabI_congr fun q hq=>?_
          unfold stage
          by_cases e:q = p
          · subst e
            rw [if_pos rfl,if_pos (by omega),sumA,hb,hA,Bool.true_and]
            cases sumA c i q <;> decide +kernel
          · rw [if_neg e]
            by_cases h1:q < p
            · rw [if_pos h1,if_pos (by omega)]
            · rw [if_neg h1,if_neg (by omega)]
        rw [e]
        exact hnx
      · have hA':sumA c i (andNot p (2 ^ i)) = false:=by simpa using hA
        rw [hA']
        refine Ev.congr (fun k=>if_neg (by decide)) ?_
        rw [same (by rw [sumA,hb,hA'];cases sumA c i p <;> rfl)]
        exact hnx
    · have hb':p.testBit i = false:=by simpa using hb
      rw [if_neg hb]
      refine Ev.congr (fun k=>if_neg (by decide)) ?_
      rw [same (by rw [sumA,hb',Bool.false_and,Bool.xor_false])]
      exact hnx
def sumS (c:ByteArray) (n:Nat):ByteArray:=strOfNums (tabI c.size fun q=>dig (sumA c n q))
theorem sum_l0:∀ d i,i + d = n → Ev (fun k=>card_function_sum.l0 k (tabI c.size fun q=>dig (sumA c i q)) (n:Int) (i:Int)) (sumS c n):=by
  have h5:=hT.n5
  intro d
  induction d with
  | zero =>
    intro i hi
    obtain rfl:i = n:=by omega
    refine Ev.step (f:=fun _=>some (sumS c i)) (fun k=>?_) (Ev.now _)
    rw [card_function_sum.l0,if_neg (by omega)]
    rfl
  | succ d ih =>
    intro i hi
    have h1:=sum_l1 hT (i:=i) (by omega) (ih (i + 1) (by omega)) c.size 0 (by omega)
    have e:tabI c.size (stage c i 0) = tabI c.size fun q=>dig (sumA c i q):=tabI_congr fun q _=>by unfold stage;rw [if_neg (by omega)]
    rw [e] at h1
    refine Ev.step (fun k=>?_) h1
    rw [card_function_sum.l0,if_pos (by omega),tabI_len]
    rfl
theorem bytes_tab:bytes_conv.f c = some (tabI c.size fun q=>dig (sumA c 0 q)):=by
  have hle:=hT.le
  unfold bytes_conv.f
  rw [if_pos (by omega)]
  congr 1
  apply List.ext_getElem
  · rw [bytesOf_length,tabI_len]
  · intro j h1 h2
    rw [bytesOf_length] at h1
    have e1:(bytesOf c)[j]'(by rw [bytesOf_length];exact h1) = bt c (j:Int):=by
      have:=rd_bytesOf c (j:Int)
      rwa [rd_get (by rw [bytesOf_length];exact h1)] at this
    rw [e1]
    simp only [tabI,List.getElem_map,List.getElem_range,sumA,vB]
    rcases hT.val j h1 with h | h
    · rw [h];rfl
    · rw [h];rfl
theorem ev_fsum:Ev (fun k=>card_function_sum.f k (n:Int) c) (sumS c n):=by
  unfold card_function_sum.f
  rw [bytes_tab hT]
  exact Ev.congr (fun k=>Option.bind_some _ _) (sum_l0 hT n 0 (by omega))
end
end Go.Proofs.Ythpahlkhiknofaa.P
namespace Go.Proofs.Ythpahlkhiknofaa.G
open Go.RowKit Go.Proofs.YthpahlkhiknofaaW.PrintWords Go.Proofs.YthpahlkhiknofaaW.PrintLast Go.Proofs.YthpahlkhiknofaaW.PrintMore
set_option maxHeartbeats 8000000
set_option maxRecDepth 100000
attribute [local go_sem] max2_int min2_int max_two min_two max_three min_three max_four min_four   -- for this text's walks alone
def bits_OnesCount64.f (a0:Int):Option (Int):=some (Go.bits .and .i64 (wrap64 (IntKind.u64.wrap ((IntKind.u64.wrap ((IntKind.u64.wrap ((Go.bits .and .u64 (IntKind.u64.wrap (((IntKind.u64.wrap ((Go.bits .and .u64 ((IntKind.u64.wrap ((Go.bits .and .u64 (a0 / 2) 6148914691236517205) + (Go.bits .and .u64 a0 6148914691236517205))) / 4) 3689348814741910323) + (Go.bits .and .u64 (IntKind.u64.wrap ((Go.bits .and .u64 (a0 / 2) 6148914691236517205) + (Go.bits .and .u64 a0 6148914691236517205))) 3689348814741910323))) / 16) + (IntKind.u64.wrap ((Go.bits .and .u64 ((IntKind.u64.wrap ((Go.bits .and .u64 (a0 / 2) 6148914691236517205) + (Go.bits .and .u64 a0 6148914691236517205))) / 4) 3689348814741910323) + (Go.bits .and .u64 (IntKind.u64.wrap ((Go.bits .and .u64 (a0 / 2) 6148914691236517205) + (Go.bits .and .u64 a0 6148914691236517205))) 3689348814741910323))))) 1085102592571150095) + ((Go.bits .and .u64 (IntKind.u64.wrap (((IntKind.u64.wrap ((Go.bits .and .u64 ((IntKind.u64.wrap ((Go.bits .and .u64 (a0 / 2) 6148914691236517205) + (Go.bits .and .u64 a0 6148914691236517205))) / 4) 3689348814741910323) + (Go.bits .and .u64 (IntKind.u64.wrap ((Go.bits .and .u64 (a0 / 2) 6148914691236517205) + (Go.bits .and .u64 a0 6148914691236517205))) 3689348814741910323))) / 16) + (IntKind.u64.wrap ((Go.bits .and .u64 ((IntKind.u64.wrap ((Go.bits .and .u64 (a0 / 2) 6148914691236517205) + (Go.bits .and .u64 a0 6148914691236517205))) / 4) 3689348814741910323) + (Go.bits .and .u64 (IntKind.u64.wrap ((Go.bits .and .u64 (a0 / 2) 6148914691236517205) + (Go.bits .and .u64 a0 6148914691236517205))) 3689348814741910323))))) 1085102592571150095) / 256))) + ((IntKind.u64.wrap ((Go.bits .and .u64 (IntKind.u64.wrap (((IntKind.u64.wrap ((Go.bits .and .u64 ((IntKind.u64.wrap ((Go.bits .and .u64 (a0 / 2) 6148914691236517205) + (Go.bits .and .u64 a0 6148914691236517205))) / 4) 3689348814741910323) + (Go.bits .and .u64 (IntKind.u64.wrap ((Go.bits .and .u64 (a0 / 2) 6148914691236517205) + (Go.bits .and .u64 a0 6148914691236517205))) 3689348814741910323))) / 16) + (IntKind.u64.wrap ((Go.bits .and .u64 ((IntKind.u64.wrap ((Go.bits .and .u64 (a0 / 2) 6148914691236517205) + (Go.bits .and .u64 a0 6148914691236517205))) / 4) 3689348814741910323) + (Go.bits .and .u64 (IntKind.u64.wrap ((Go.bits .and .u64 (a0 / 2) 6148914691236517205) + (Go.bits .and .u64 a0 6148914691236517205))) 3689348814741910323))))) 1085102592571150095) + ((Go.bits .and .u64 (IntKind.u64.wrap (((IntKind.u64.wrap ((Go.bits .and .u64 ((IntKind.u64.wrap ((Go.bits .and .u64 (a0 / 2) 6148914691236517205) + (Go.bits .and .u64 a0 6148914691236517205))) / 4) 3689348814741910323) + (Go.bits .and .u64 (IntKind.u64.wrap ((Go.bits .and .u64 (a0 / 2) 6148914691236517205) + (Go.bits .and .u64 a0 6148914691236517205))) 3689348814741910323))) / 16) + (IntKind.u64.wrap ((Go.bits .and .u64 ((IntKind.u64.wrap ((Go.bits .and .u64 (a0 / 2) 6148914691236517205) + (Go.bits .and .u64 a0 6148914691236517205))) / 4) 3689348814741910323) + (Go.bits .and .u64 (IntKind.u64.wrap ((Go.bits .and .u64 (a0 / 2) 6148914691236517205) + (Go.bits .and .u64 a0 6148914691236517205))) 3689348814741910323))))) 1085102592571150095) / 256))) / 65536))) + ((IntKind.u64.wrap ((IntKind.u64.wrap ((Go.bits .and .u64 (IntKind.u64.wrap (((IntKind.u64.wrap ((Go.bits .and .u64 ((IntKind.u64.wrap ((Go.bits .and .u64 (a0 / 2) 6148914691236517205) + (Go.bits .and .u64 a0 6148914691236517205))) / 4) 3689348814741910323) + (Go.bits .and .u64 (IntKind.u64.wrap ((Go.bits .and .u64 (a0 / 2) 6148914691236517205) + (Go.bits .and .u64 a0 6148914691236517205))) 3689348814741910323))) / 16) + (IntKind.u64.wrap ((Go.bits .and .u64 ((IntKind.u64.wrap ((Go.bits .and .u64 (a0 / 2) 6148914691236517205) + (Go.bits .and .u64 a0 6148914691236517205))) / 4) 3689348814741910323) + (Go.bits .and .u64 (IntKind.u64.wrap ((Go.bits .and .u64 (a0 / 2) 6148914691236517205) + (Go.bits .and .u64 a0 6148914691236517205))) 3689348814741910323))))) 1085102592571150095) + ((Go.bits .and .u64 (IntKind.u64.wrap (((IntKind.u64.wrap ((Go.bits .and .u64 ((IntKind.u64.wrap ((Go.bits .and .u64 (a0 / 2) 6148914691236517205) + (Go.bits .and .u64 a0 6148914691236517205))) / 4) 3689348814741910323) + (Go.bits .and .u64 (IntKind.u64.wrap ((Go.bits .and .u64 (a0 / 2) 6148914691236517205) + (Go.bits .and .u64 a0 6148914691236517205))) 3689348814741910323))) / 16) + (IntKind.u64.wrap ((Go.bits .and .u64 ((IntKind.u64.wrap ((Go.bits .and .u64 (a0 / 2) 6148914691236517205) + (Go.bits .and .u64 a0 6148914691236517205))) / 4) 3689348814741910323) + (Go.bits .and .u64 (IntKind.u64.wrap ((Go.bits .and .u64 (a0 / 2) 6148914691236517205) + (Go.bits .and .u64 a0 6148914691236517205))) 3689348814741910323))))) 1085102592571150095) / 256))) + ((IntKind.u64.wrap ((Go.bits .and .u64 (IntKind.u64.wrap (((IntKind.u64.wrap ((Go.bits .and .u64 ((IntKind.u64.wrap ((Go.bits .and .u64 (a0 / 2) 6148914691236517205) + (Go.bits .and .u64 a0 6148914691236517205))) / 4) 3689348814741910323) + (Go.bits .and .u64 (IntKind.u64.wrap ((Go.bits .and .u64 (a0 / 2) 6148914691236517205) + (Go.bits .and .u64 a0 6148914691236517205))) 3689348814741910323))) / 16) + (IntKind.u64.wrap ((Go.bits .and .u64 ((IntKind.u64.wrap ((Go.bits .and .u64 (a0 / 2) 6148914691236517205) + (Go.bits .and .u64 a0 6148914691236517205))) / 4) 3689348814741910323) + (Go.bits .and .u64 (IntKind.u64.wrap ((Go.bits .and .u64 (a0 / 2) 6148914691236517205) + (Go.bits .and .u64 a0 6148914691236517205))) 3689348814741910323))))) 1085102592571150095) + ((Go.bits .and .u64 (IntKind.u64.wrap (((IntKind.u64.wrap ((Go.bits .and .u64 ((IntKind.u64.wrap ((Go.bits .and .u64 (a0 / 2) 6148914691236517205) + (Go.bits .and .u64 a0 6148914691236517205))) / 4) 3689348814741910323) + (Go.bits .and .u64 (IntKind.u64.wrap ((Go.bits .and .u64 (a0 / 2) 6148914691236517205) + (Go.bits .and .u64 a0 6148914691236517205))) 3689348814741910323))) / 16) + (IntKind.u64.wrap ((Go.bits .and .u64 ((IntKind.u64.wrap ((Go.bits .and .u64 (a0 / 2) 6148914691236517205) + (Go.bits .and .u64 a0 6148914691236517205))) / 4) 3689348814741910323) + (Go.bits .and .u64 (IntKind.u64.wrap ((Go.bits .and .u64 (a0 / 2) 6148914691236517205) + (Go.bits .and .u64 a0 6148914691236517205))) 3689348814741910323))))) 1085102592571150095) / 256))) / 65536))) / 4294967296)))) 127)
theorem bits_OnesCount64.calls (a0:Int) (r:Int) (w:World) (h:bits_OnesCount64.f a0 = some r) :
  Calls Try.prog 112 #[.int .u64 a0] w fun e w'=>e = .returned (.int .i64 r) ∧ Drawn0 w w':=by
 have H:(some (Go.bits .and .i64 (wrap64 (IntKind.u64.wrap ((IntKind.u64.wrap ((IntKind.u64.wrap ((Go.bits .and .u64 (IntKind.u64.wrap (((IntKind.u64.wrap ((Go.bits .and .u64 ((IntKind.u64.wrap ((Go.bits .and .u64 (a0 / 2) 6148914691236517205) + (Go.bits .and .u64 a0 6148914691236517205))) / 4) 3689348814741910323) + (Go.bits .and .u64 (IntKind.u64.wrap ((Go.bits .and .u64 (a0 / 2) 6148914691236517205) + (Go.bits .and .u64 a0 6148914691236517205))) 3689348814741910323))) / 16) + (IntKind.u64.wrap ((Go.bits .and .u64 ((IntKind.u64.wrap ((Go.bits .and .u64 (a0 / 2) 6148914691236517205) + (Go.bits .and .u64 a0 6148914691236517205))) / 4) 3689348814741910323) + (Go.bits .and .u64 (IntKind.u64.wrap ((Go.bits .and .u64 (a0 / 2) 6148914691236517205) + (Go.bits .and .u64 a0 6148914691236517205))) 3689348814741910323))))) 1085102592571150095) + ((Go.bits .and .u64 (IntKind.u64.wrap (((IntKind.u64.wrap ((Go.bits .and .u64 ((IntKind.u64.wrap ((Go.bits .and .u64 (a0 / 2) 6148914691236517205) + (Go.bits .and .u64 a0 6148914691236517205))) / 4) 3689348814741910323) + (Go.bits .and .u64 (IntKind.u64.wrap ((Go.bits .and .u64 (a0 / 2) 6148914691236517205) + (Go.bits .and .u64 a0 6148914691236517205))) 3689348814741910323))) / 16) + (IntKind.u64.wrap ((Go.bits .and .u64 ((IntKind.u64.wrap ((Go.bits .and .u64 (a0 / 2) 6148914691236517205) + (Go.bits .and .u64 a0 6148914691236517205))) / 4) 3689348814741910323) + (Go.bits .and .u64 (IntKind.u64.wrap ((Go.bits .and .u64 (a0 / 2) 6148914691236517205) + (Go.bits .and .u64 a0 6148914691236517205))) 3689348814741910323))))) 1085102592571150095) / 256))) + ((IntKind.u64.wrap ((Go.bits .and .u64 (IntKind.u64.wrap (((IntKind.u64.wrap ((Go.bits .and .u64 ((IntKind.u64.wrap ((Go.bits .and .u64 (a0 / 2) 6148914691236517205) + (Go.bits .and .u64 a0 6148914691236517205))) / 4) 3689348814741910323) + (Go.bits .and .u64 (IntKind.u64.wrap ((Go.bits .and .u64 (a0 / 2) 6148914691236517205) + (Go.bits .and .u64 a0 6148914691236517205))) 3689348814741910323))) / 16) + (IntKind.u64.wrap ((Go.bits .and .u64 ((IntKind.u64.wrap ((Go.bits .and .u64 (a0 / 2) 6148914691236517205) + (Go.bits .and .u64 a0 6148914691236517205))) / 4) 3689348814741910323) + (Go.bits .and .u64 (IntKind.u64.wrap ((Go.bits .and .u64 (a0 / 2) 6148914691236517205) + (Go.bits .and .u64 a0 6148914691236517205))) 3689348814741910323))))) 1085102592571150095) + ((Go.bits .and .u64 (IntKind.u64.wrap (((IntKind.u64.wrap ((Go.bits .and .u64 ((IntKind.u64.wrap ((Go.bits .and .u64 (a0 / 2) 6148914691236517205) + (Go.bits .and .u64 a0 6148914691236517205))) / 4) 3689348814741910323) + (Go.bits .and .u64 (IntKind.u64.wrap ((Go.bits .and .u64 (a0 / 2) 6148914691236517205) + (Go.bits .and .u64 a0 6148914691236517205))) 3689348814741910323))) / 16) + (IntKind.u64.wrap ((Go.bits .and .u64 ((IntKind.u64.wrap ((Go.bits .and .u64 (a0 / 2) 6148914691236517205) + (Go.bits .and .u64 a0 6148914691236517205))) / 4) 3689348814741910323) + (Go.bits .and .u64 (IntKind.u64.wrap ((Go.bits .and .u64 (a0 / 2) 6148914691236517205) + (Go.bits .and .u64 a0 6148914691236517205))) 3689348814741910323))))) 1085102592571150095) / 256))) / 65536))) + ((IntKind.u64.wrap ((IntKind.u64.wrap ((Go.bits .and .u64 (IntKind.u64.wrap (((IntKind.u64.wrap ((Go.bits .and .u64 ((IntKind.u64.wrap ((Go.bits .and .u64 (a0 / 2) 6148914691236517205) + (Go.bits .and .u64 a0 6148914691236517205))) / 4) 3689348814741910323) + (Go.bits .and .u64 (IntKind.u64.wrap ((Go.bits .and .u64 (a0 / 2) 6148914691236517205) + (Go.bits .and .u64 a0 6148914691236517205))) 3689348814741910323))) / 16) + (IntKind.u64.wrap ((Go.bits .and .u64 ((IntKind.u64.wrap ((Go.bits .and .u64 (a0 / 2) 6148914691236517205) + (Go.bits .and .u64 a0 6148914691236517205))) / 4) 3689348814741910323) + (Go.bits .and .u64 (IntKind.u64.wrap ((Go.bits .and .u64 (a0 / 2) 6148914691236517205) + (Go.bits .and .u64 a0 6148914691236517205))) 3689348814741910323))))) 1085102592571150095) + ((Go.bits .and .u64 (IntKind.u64.wrap (((IntKind.u64.wrap ((Go.bits .and .u64 ((IntKind.u64.wrap ((Go.bits .and .u64 (a0 / 2) 6148914691236517205) + (Go.bits .and .u64 a0 6148914691236517205))) / 4) 3689348814741910323) + (Go.bits .and .u64 (IntKind.u64.wrap ((Go.bits .and .u64 (a0 / 2) 6148914691236517205) + (Go.bits .and .u64 a0 6148914691236517205))) 3689348814741910323))) / 16) + (IntKind.u64.wrap ((Go.bits .and .u64 ((IntKind.u64.wrap ((Go.bits .and .u64 (a0 / 2) 6148914691236517205) + (Go.bits .and .u64 a0 6148914691236517205))) / 4) 3689348814741910323) + (Go.bits .and .u64 (IntKind.u64.wrap ((Go.bits .and .u64 (a0 / 2) 6148914691236517205) + (Go.bits .and .u64 a0 6148914691236517205))) 3689348814741910323))))) 1085102592571150095) / 256))) + ((IntKind.u64.wrap ((Go.bits .and .u64 (IntKind.u64.wrap (((IntKind.u64.wrap ((Go.bits .and .u64 ((IntKind.u64.wrap ((Go.bits .and .u64 (a0 / 2) 6148914691236517205) + (Go.bits .and .u64 a0 6148914691236517205))) / 4) 3689348814741910323) + (Go.bits .and .u64 (IntKind.u64.wrap ((Go.bits .and .u64 (a0 / 2) 6148914691236517205) + (Go.bits .and .u64 a0 6148914691236517205))) 3689348814741910323))) / 16) + (IntKind.u64.wrap ((Go.bits .and .u64 ((IntKind.u64.wrap ((Go.bits .and .u64 (a0 / 2) 6148914691236517205) + (Go.bits .and .u64 a0 6148914691236517205))) / 4) 3689348814741910323) + (Go.bits .and .u64 (IntKind.u64.wrap ((Go.bits .and .u64 (a0 / 2) 6148914691236517205) + (Go.bits .and .u64 a0 6148914691236517205))) 3689348814741910323))))) 1085102592571150095) + ((Go.bits .and .u64 (IntKind.u64.wrap (((IntKind.u64.wrap ((Go.bits .and .u64 ((IntKind.u64.wrap ((Go.bits .and .u64 (a0 / 2) 6148914691236517205) + (Go.bits .and .u64 a0 6148914691236517205))) / 4) 3689348814741910323) + (Go.bits .and .u64 (IntKind.u64.wrap ((Go.bits .and .u64 (a0 / 2) 6148914691236517205) + (Go.bits .and .u64 a0 6148914691236517205))) 3689348814741910323))) / 16) + (IntKind.u64.wrap ((Go.bits .and .u64 ((IntKind.u64.wrap ((Go.bits .and .u64 (a0 / 2) 6148914691236517205) + (Go.bits .and .u64 a0 6148914691236517205))) / 4) 3689348814741910323) + (Go.bits .and .u64 (IntKind.u64.wrap ((Go.bits .and .u64 (a0 / 2) 6148914691236517205) + (Go.bits .and .u64 a0 6148914691236517205))) 3689348814741910323))))) 1085102592571150095) / 256))) / 65536))) / 4294967296)))) 127)) = some r:=h
 clear h
 obtain rfl:=Option.some.inj H
 go_enter Try.func112,Try.ntmps112
 go_wp2
 go_ret
 exact ⟨by first | rfl | (simp;done) | (simp [*];done),by repeat (first | exact Drawn0.refl _ | apply Drawn0.step)⟩
def bits_OnesCount.f (a0:Int):Option (Int):=(bits_OnesCount64.f a0).bind fun t379=>(some t379)
theorem bits_OnesCount.calls (a0:Int) (r:Int) (w:World) (h:bits_OnesCount.f a0 = some r) :
  Calls Try.prog 84 #[.int .u64 a0] w fun e w'=>e = .returned (.int .i64 r) ∧ Drawn0 w w':=by
 have H:((bits_OnesCount64.f a0).bind fun t379=>(some t379)) = some r:=h
 clear h
 replace H:=Option.bind_eq_some_iff.mp H
 obtain ⟨t379,A20,H⟩:=H
 replace H:(some t379) = some r:=H
 have A2:=Aside0.mk A20
 clear A20
 obtain rfl:=Option.some.inj H
 go_enter Try.func84,Try.ntmps84
 go_wp2_with (first | ((with_reducible refine gate_callee (f:=112) rfl ?_);refine goesL_ (some 7) rfl rfl Try.func112 (by kernel_rfl) rfl #[.int .u64 a0] rfl (by (try simp only [List.map_toArray,List.map_cons,List.map_nil]);first | done | rfl | (simp only [List.length_drop,List.length_take];rfl)) ?_;(with_reducible refine (bits_OnesCount64.calls a0 t379 _ A2.out).mono ?_);rintro e w' ⟨rfl,⟨nd,rfl⟩⟩;refine ⟨_,rfl,?_⟩))
 go_ret
 exact ⟨by first | rfl | (simp;done) | (simp [*];done),by repeat (first | exact Drawn0.refl _ | apply Drawn0.step)⟩
def card_function_sensitivity.l0:Nat → Int → Int → Int → Int → Int → ByteArray → Option (Int)
 | 0,_,_,_,_,_,_=>none
 | k + 1,x1,x5,x8,x9,x381000,x381001=>if x9 < x8 then (if 0 ≤ x1 then (if x1 < (x381001.size:Int) then (if 0 ≤ x9 then (if 0 ≤ (Go.bits .xor .i64 x1 (shl .i64 1 x9)) then (if (Go.bits .xor .i64 x1 (shl .i64 1 x9)) < (x381001.size:Int) then (if (bt x381001 x1) = (bt x381001 (Go.bits .xor .i64 x1 (shl .i64 1 x9))) then (card_function_sensitivity.l0 k x1 x5 x8 (wrap64 (x9 + 1)) x381000 x381001) else (card_function_sensitivity.l0 k x1 (wrap64 (x5 + 1)) x8 (wrap64 (x9 + 1)) x381000 x381001)) else (none)) else (none)) else (none)) else (none)) else (none)) else (some x5)
def card_function_sensitivity.f (k:Nat) (a0_0:Int) (a0_1:ByteArray) (a1:Int):Option (Int):=card_function_sensitivity.l0 k a1 0 a0_0 0 a0_0 a0_1
theorem card_function_sensitivity.mono_l:∀ k,(∀ y0 y1 y2 y3 y4 y5,LeO (card_function_sensitivity.l0 k y0 y1 y2 y3 y4 y5) (card_function_sensitivity.l0 (k + 1) y0 y1 y2 y3 y4 y5))
 | 0=>fun _ _ _ _ _ _ r h=>by simp [card_function_sensitivity.l0] at h
 | k + 1=>by
  have ih0:=card_function_sensitivity.mono_l k
  intro y0 y1 y2 y3 y4 y5
  unfold card_function_sensitivity.l0
  repeat' first
  | (with_reducible exact ih0 _ _ _ _ _ _)
  | (with_reducible exact LeO.refl _)
  | (with_reducible exact LeO.none _)
  | (with_reducible refine LeO.ite ?_ ?_)
  | (with_reducible refine LeO.bind ?_ (fun _=>?_))
  | exact ih0 _ _ _ _ _ _
  | exact LeO.none _
  | refine LeO.ite ?_ ?_
  | refine LeO.bind ?_ (fun _=>?_)
theorem card_function_sensitivity.mono:∀ a0 a1 a2 k,LeO (card_function_sensitivity.f k a0 a1 a2) (card_function_sensitivity.f (k + 1) a0 a1 a2):=by
 intro a0 a1 a2 k
 have ih0:=card_function_sensitivity.mono_l k
 unfold card_function_sensitivity.f
 repeat' first
   | (with_reducible exact ih0 _ _ _ _ _ _)
   | (with_reducible exact LeO.refl _)
   | (with_reducible exact LeO.none _)
   | (with_reducible refine LeO.ite ?_ ?_)
   | (with_reducible refine LeO.bind ?_ (fun _=>?_))
   | exact ih0 _ _ _ _ _ _
   | exact LeO.none _
   | refine LeO.ite ?_ ?_
   | refine LeO.bind ?_ (fun _=>?_)
theorem card_function_sensitivity.calls (k:Nat) (a0_0:Int) (a0_1:ByteArray) (a1:Int) (r:Int) (w:World) (h:card_function_sensitivity.f k a0_0 a0_1 a1 = some r) :
  Calls Try.prog 85 #[.agg #[.int .i64 a0_0,.string a0_1],.int .i64 a1] w fun e w'=>e = .returned (.int .i64 r) ∧ Below w.heap.size w w':=by
 have hu81:=Try.underlying81
 have HB:=Aside0.mk (Below.refl w.heap.size w)
 have H:(card_function_sensitivity.l0 k a1 0 a0_0 0 a0_0 a0_1) = some r:=h
 clear h
 have H':=Aside0.mk H
 clear H
 go_enter Try.func85,Try.ntmps85
 go_wp2_with (first | ((with_reducible refine gate_dst (N:=2) rfl ?_);refine box_event ?hg (N:=2) ?hd (cs:=#[.int .i64 a0_0,.string a0_1]) (t:=81) ?hr ?_;(case hd=>rfl);(case hg=>rfl);(case hr=>first | (go_simp;done) | (go_simp;rfl));intro gb380 hg w3 hbox hb;have n0_:=Aside0.mk (below_step (by repeat (first | (with_reducible first | exact HB.out | apply below_alloc | apply pw_below_drewN | apply below_drew1) | exact HB.out)) hb);have n1_:=Aside0.mk (hbox);have n2_:=Aside0.mk ((by rw [hg];exact (below_size (by repeat (first | (with_reducible first | exact HB.out | apply below_alloc | apply pw_below_drewN | apply below_drew1) | exact HB.out))):w.heap.size ≤ gb380));have n3_:=Aside0.mk ((by rw [hg];exact (below_size (by repeat (first | (with_reducible first | exact HB.out | apply below_alloc | apply pw_below_drewN | apply below_drew1) | exact HB.out))):w.heap.size ≤ gb380));clear HB;have HB:=n0_;have BK380:=n1_;have GW380:=n2_;have GE380:=n3_;clear n0_ n1_ n2_ n3_;clear hb hbox hg;have hcz4_0:w3.cell? ⟨gb380,0,none⟩ = some (.int .i64 a0_0):=(blk_cell BK380.out 0).trans rfl;have hcz4_1:w3.cell? ⟨gb380,1,none⟩ = some (.string a0_1):=(blk_cell BK380.out 1).trans rfl;have hfz4_0:=blk_frozen BK380.out 0;have hfz4_1:=blk_frozen BK380.out 1))
 repeat (go_quiet (first | ((with_reducible refine gate_dst (N:=2) rfl ?_);refine box_event ?hg (N:=2) ?hd (cs:=#[.int .i64 a0_0,.string a0_1]) (t:=81) ?hr ?_;(case hd=>rfl);(case hg=>rfl);(case hr=>first | (go_simp;done) | (go_simp;rfl));intro gb380 hg w3 hbox hb;have n0_:=Aside0.mk (below_step (by repeat (first | (with_reducible first | exact HB.out | apply below_alloc | apply pw_below_drewN | apply below_drew1) | exact HB.out)) hb);have n1_:=Aside0.mk (hbox);have n2_:=Aside0.mk ((by rw [hg];exact (below_size (by repeat (first | (with_reducible first | exact HB.out | apply below_alloc | apply pw_below_drewN | apply below_drew1) | exact HB.out))):w.heap.size ≤ gb380));have n3_:=Aside0.mk ((by rw [hg];exact (below_size (by repeat (first | (with_reducible first | exact HB.out | apply below_alloc | apply pw_below_drewN | apply below_drew1) | exact HB.out))):w.heap.size ≤ gb380));clear HB;have HB:=n0_;have BK380:=n1_;have GW380:=n2_;have GE380:=n3_;clear n0_ n1_ n2_ n3_;clear hb hbox hg;have hcz4_0:w3.cell? ⟨gb380,0,none⟩ = some (.int .i64 a0_0):=(blk_cell BK380.out 0).trans rfl;have hcz4_1:w3.cell? ⟨gb380,1,none⟩ = some (.string a0_1):=(blk_cell BK380.out 1).trans rfl;have hfz4_0:=blk_frozen BK380.out 0;have hfz4_1:=blk_frozen BK380.out 1));try go_wp2_with (first | ((with_reducible refine gate_dst (N:=2) rfl ?_);refine box_event ?hg (N:=2) ?hd (cs:=#[.int .i64 a0_0,.string a0_1]) (t:=81) ?hr ?_;(case hd=>rfl);(case hg=>rfl);(case hr=>first | (go_simp;done) | (go_simp;rfl));intro gb380 hg w3 hbox hb;have n0_:=Aside0.mk (below_step (by repeat (first | (with_reducible first | exact HB.out | apply below_alloc | apply pw_below_drewN | apply below_drew1) | exact HB.out)) hb);have n1_:=Aside0.mk (hbox);have n2_:=Aside0.mk ((by rw [hg];exact (below_size (by repeat (first | (with_reducible first | exact HB.out | apply below_alloc | apply pw_below_drewN | apply below_drew1) | exact HB.out))):w.heap.size ≤ gb380));have n3_:=Aside0.mk ((by rw [hg];exact (below_size (by repeat (first | (with_reducible first | exact HB.out | apply below_alloc | apply pw_below_drewN | apply below_drew1) | exact HB.out))):w.heap.size ≤ gb380));clear HB;have HB:=n0_;have BK380:=n1_;have GW380:=n2_;have GE380:=n3_;clear n0_ n1_ n2_ n3_;clear hb hbox hg;have hcz4_0:w3.cell? ⟨gb380,0,none⟩ = some (.int .i64 a0_0):=(blk_cell BK380.out 0).trans rfl;have hcz4_1:w3.cell? ⟨gb380,1,none⟩ = some (.string a0_1):=(blk_cell BK380.out 1).trans rfl;have hfz4_0:=blk_frozen BK380.out 0;have hfz4_1:=blk_frozen BK380.out 1)))
 go_loopg [5,9] k (fun kq v5 v9 w'=>∃ (x5_1:Int) (x9_1:Int),v5 = .int .i64 x5_1 ∧ v9 = .int .i64 x9_1 ∧ Aside0 (card_function_sensitivity.l0 kq a1 x5_1 a0_0 x9_1 a0_0 a0_1 = some r) ∧ Aside0 (kq ≤ k) ∧ Aside0 (w'.heap[gb380]? = some (.cells #[.int .i64 a0_0,.string a0_1] 81 (0,0))) ∧ Aside0 (Below w.heap.size w w'))
 case atStart=>exact ⟨(0),(0),(by first | rfl | (simp;done) | (simp [*];done)),(by first | rfl | (simp;done) | (simp [*];done)),H',⟨Nat.le_refl _⟩,⟨by (with_reducible repeat (first | refine blk_drewN ?_ _ | refine blk_drew ?_ | refine blk_alloc ?_ _));exact BK380.out⟩,⟨by repeat (first | (with_reducible first | exact HB.out | apply below_alloc | apply pw_below_drewN | apply below_drew1 | refine below_set ?_ GE380.out) | exact HB.out)⟩⟩
 case round =>
  clear H'
  try clear p2
  try clear hcz4_0
  try clear hcz4_1
  try clear hfz4_0
  try clear hfz4_1
  obtain ⟨x5_1,x9_1,rfl,rfl,HA,HK1,BK380,HB⟩:=hrel
  cases gk with
  | zero=>exact absurd HA.out (by simp [card_function_sensitivity.l0])
  | succ k1 =>
   have H:=HA.out
   clear HA
   simp only [card_function_sensitivity.l0] at H
   by_cases c5:x9_1 < a0_0
   case neg =>
    rw [if_neg c5] at H
    have c5b0:decide (x9_1 < a0_0) = false:=decide_eq_false c5
    clear c5
    obtain rfl:=Option.some.inj H
    go_wp2
    repeat (go_quiet (fail);try go_wp2)
    go_ret
    exact ⟨by first | rfl | (simp [errW_none,errW_some] <;> rfl) | (simp [*,errW_none,errW_some] <;> rfl),by repeat (first | (with_reducible first | exact HB.out | apply below_alloc | apply pw_below_drewN | apply below_drew1 | refine below_set ?_ GE380.out) | exact HB.out)⟩
   rw [if_pos c5] at H
   have c5b0:decide (x9_1 < a0_0) = true:=decide_eq_true c5
   clear c5
   by_cases c6:0 ≤ a1
   case neg =>
    rw [if_neg c6] at H
    exact absurd H (by simp)
   rw [if_pos c6] at H
   have c6b0:decide (0 ≤ a1) = true:=decide_eq_true c6
   clear c6
   by_cases c7:a1 < (a0_1.size:Int)
   case neg =>
    rw [if_neg c7] at H
    exact absurd H (by simp)
   rw [if_pos c7] at H
   have c7b0:decide (a1 < (a0_1.size:Int)) = true:=decide_eq_true c7
   clear c7
   by_cases c9:0 ≤ x9_1
   case neg =>
    rw [if_neg c9] at H
    exact absurd H (by simp)
   rw [if_pos c9] at H
   have c9b0:=eq_true c9
   have c9b1:decide (0 ≤ x9_1) = true:=decide_eq_true c9
   clear c9
   obtain ⟨ji10,hji10⟩:∃ j_:Int,(shl .i64 1 x9_1) = j_:=⟨_,rfl⟩
   replace H:(if 0 ≤ (Go.bits .xor .i64 a1 (ji10)) then (if (Go.bits .xor .i64 a1 (ji10)) < (a0_1.size:Int) then (if (bt a0_1 a1) = (bt a0_1 (Go.bits .xor .i64 a1 (ji10))) then (card_function_sensitivity.l0 k1 a1 x5_1 a0_0 (wrap64 (x9_1 + 1)) a0_0 a0_1) else (card_function_sensitivity.l0 k1 a1 (wrap64 (x5_1 + 1)) a0_0 (wrap64 (x9_1 + 1)) a0_0 a0_1)) else (none)) else (none)) = some r:=by first | (rw [hji10] at H;exact H) | (simp only [hji10] at H ⊢;exact H)
   have hji10_:(IntKind.i64.wrap (1 * 2 ^ min x9_1.toNat 64)) = ji10:=hji10
   have hji10z:x9_1 ≤ 64 → (IntKind.i64.wrap (1 * 2 ^ x9_1.toNat)) = ji10:=shl_small hji10
   have hji10u:(IntKind.i64.wrap (2 ^ min x9_1.toNat 64)) = ji10:=by have h_:=hji10_;rw [Int.one_mul] at h_;exact h_
   have hji10v:x9_1 ≤ 64 → (IntKind.i64.wrap (2 ^ x9_1.toNat)) = ji10:=fun hle_=>by have h_:=hji10z hle_;rw [Int.one_mul] at h_;exact h_
   have hji10y:(wrap64 (1 * 2 ^ min x9_1.toNat 64)) = ji10:=(i64_w _).symm.trans hji10_
   have hji10x:x9_1 ≤ 64 → (wrap64 (1 * 2 ^ x9_1.toNat)) = ji10:=fun h_=>(i64_w _).symm.trans (hji10z h_)
   by_cases c11:0 ≤ (Go.bits .xor .i64 a1 (ji10))
   case neg =>
    rw [if_neg c11] at H
    exact absurd H (by simp)
   rw [if_pos c11] at H
   have c11b0:decide (0 ≤ (Go.bits .xor .i64 a1 (ji10))) = true:=decide_eq_true c11
   clear c11
   by_cases c12:(Go.bits .xor .i64 a1 (ji10)) < (a0_1.size:Int)
   case neg =>
    rw [if_neg c12] at H
    exact absurd H (by simp)
   rw [if_pos c12] at H
   have c12b0:decide ((Go.bits .xor .i64 a1 (ji10)) < (a0_1.size:Int)) = true:=decide_eq_true c12
   clear c12
   by_cases c14:(bt a0_1 a1) = (bt a0_1 (Go.bits .xor .i64 a1 (ji10)))
   case neg =>
    rw [if_neg c14] at H
    have c14b0:((bt a0_1 a1) == (bt a0_1 (Go.bits .xor .i64 a1 (ji10)))) = false:=beq_eq_false_iff_ne.mpr c14
    have c14b1:((bt a0_1 a1) != (bt a0_1 (Go.bits .xor .i64 a1 (ji10)))) = true:=bne_iff_ne.mpr c14
    have H':=Aside0.mk H
    clear H
    have hcz16_0:wr.cell? ⟨gb380,0,none⟩ = some (.int .i64 a0_0):=(blk_cell BK380.out 0).trans rfl
    have hcz16_1:wr.cell? ⟨gb380,1,none⟩ = some (.string a0_1):=(blk_cell BK380.out 1).trans rfl
    have hfz16_0:=blk_frozen BK380.out 0
    have hfz16_1:=blk_frozen BK380.out 1
    have p8:0 ≤ (a1:Int):=of_decide_eq_true (by first | (with_reducible assumption) | assumption)
    have q8:a1 < (a0_1.size:Int):=of_decide_eq_true (by first | (with_reducible assumption) | assumption)
    have hx8:=bt_at a0_1 a1
    replace p8:=eq_true p8
    replace q8:=eq_true q8
    have p13:0 ≤ ((Go.bits .xor .i64 a1 (ji10)):Int):=of_decide_eq_true (by first | (with_reducible assumption) | assumption)
    have q13:(Go.bits .xor .i64 a1 (ji10)) < (a0_1.size:Int):=of_decide_eq_true (by first | (with_reducible assumption) | assumption)
    have hx13:=bt_at a0_1 (Go.bits .xor .i64 a1 (ji10))
    replace p13:=eq_true p13
    replace q13:=eq_true q13
    go_wp2
    repeat (go_quiet (fail);try go_wp2)
    go_roundg k1
    case measure=>have:=HK1.out;omega
    case rel=>exact ⟨(wrap64 (x5_1 + 1)),(wrap64 (x9_1 + 1)),(by first | rfl | (simp;done) | (simp [*];done)),(by first | rfl | (simp;done) | (simp [*];done)),H',⟨by have:=HK1.out;omega⟩,⟨by (with_reducible repeat (first | refine blk_drewN ?_ _ | refine blk_drew ?_ | refine blk_alloc ?_ _));exact BK380.out⟩,⟨by repeat (first | (with_reducible first | exact HB.out | apply below_alloc | apply pw_below_drewN | apply below_drew1 | refine below_set ?_ GE380.out) | exact HB.out)⟩⟩
   rw [if_pos c14] at H
   have c14b0:((bt a0_1 a1) == (bt a0_1 (Go.bits .xor .i64 a1 (ji10)))) = true:=beq_iff_eq.mpr c14
   have c14b1:((bt a0_1 a1) != (bt a0_1 (Go.bits .xor .i64 a1 (ji10)))) = false:=bne_eq_false_iff_eq.mpr c14
   clear c14
   have H':=Aside0.mk H
   clear H
   have hcz15_0:wr.cell? ⟨gb380,0,none⟩ = some (.int .i64 a0_0):=(blk_cell BK380.out 0).trans rfl
   have hcz15_1:wr.cell? ⟨gb380,1,none⟩ = some (.string a0_1):=(blk_cell BK380.out 1).trans rfl
   have hfz15_0:=blk_frozen BK380.out 0
   have hfz15_1:=blk_frozen BK380.out 1
   have p8:0 ≤ (a1:Int):=of_decide_eq_true (by first | (with_reducible assumption) | assumption)
   have q8:a1 < (a0_1.size:Int):=of_decide_eq_true (by first | (with_reducible assumption) | assumption)
   have hx8:=bt_at a0_1 a1
   replace p8:=eq_true p8
   replace q8:=eq_true q8
   have p13:0 ≤ ((Go.bits .xor .i64 a1 (ji10)):Int):=of_decide_eq_true (by first | (with_reducible assumption) | assumption)
   have q13:(Go.bits .xor .i64 a1 (ji10)) < (a0_1.size:Int):=of_decide_eq_true (by first | (with_reducible assumption) | assumption)
   have hx13:=bt_at a0_1 (Go.bits .xor .i64 a1 (ji10))
   replace p13:=eq_true p13
   replace q13:=eq_true q13
   go_wp2
   repeat (go_quiet (fail);try go_wp2)
   go_roundg k1
   case measure=>have:=HK1.out;omega
   case rel=>exact ⟨(x5_1),(wrap64 (x9_1 + 1)),(by first | rfl | (simp;done) | (simp [*];done)),(by first | rfl | (simp;done) | (simp [*];done)),H',⟨by have:=HK1.out;omega⟩,⟨by (with_reducible repeat (first | refine blk_drewN ?_ _ | refine blk_drew ?_ | refine blk_alloc ?_ _));exact BK380.out⟩,⟨by repeat (first | (with_reducible first | exact HB.out | apply below_alloc | apply pw_below_drewN | apply below_drew1 | refine below_set ?_ GE380.out) | exact HB.out)⟩⟩
def card_function_decided.l0:Nat → Int → Int → Int → Int → Int → ByteArray → Option (Bool)
 | 0,_,_,_,_,_,_=>none
 | k + 1,x1,x2,x10,x11,x382000,x382001=>if x11 < x10 then (if (Go.bits .and .i64 (Go.bits .xor .i64 x1 x11) x2) = 0 then (if 0 ≤ x11 then (if x11 < (x382001.size:Int) then (if 0 ≤ x1 then (if x1 < (x382001.size:Int) then (if (bt x382001 x11) = (bt x382001 x1) then (card_function_decided.l0 k x1 x2 x10 (wrap64 (x11 + 1)) x382000 x382001) else (some false)) else (none)) else (none)) else (none)) else (none)) else (card_function_decided.l0 k x1 x2 x10 (wrap64 (x11 + 1)) x382000 x382001)) else (some true)
def card_function_decided.f (k:Nat) (a0_0:Int) (a0_1:ByteArray) (a1:Int) (a2:Int):Option (Bool):=card_function_decided.l0 k a1 a2 (a0_1.size:Int) 0 a0_0 a0_1
theorem card_function_decided.mono_l:∀ k,(∀ y0 y1 y2 y3 y4 y5,LeO (card_function_decided.l0 k y0 y1 y2 y3 y4 y5) (card_function_decided.l0 (k + 1) y0 y1 y2 y3 y4 y5))
 | 0=>fun _ _ _ _ _ _ r h=>by simp [card_function_decided.l0] at h
 | k + 1=>by
  have ih0:=card_function_decided.mono_l k
  intro y0 y1 y2 y3 y4 y5
  unfold card_function_decided.l0
  repeat' first
  | (with_reducible exact ih0 _ _ _ _ _ _)
  | (with_reducible exact LeO.refl _)
  | (with_reducible exact LeO.none _)
  | (with_reducible refine LeO.ite ?_ ?_)
  | (with_reducible refine LeO.bind ?_ (fun _=>?_))
  | exact ih0 _ _ _ _ _ _
  | exact LeO.none _
  | refine LeO.ite ?_ ?_
  | refine LeO.bind ?_ (fun _=>?_)
theorem card_function_decided.mono:∀ a0 a1 a2 a3 k,LeO (card_function_decided.f k a0 a1 a2 a3) (card_function_decided.f (k + 1) a0 a1 a2 a3):=by
 intro a0 a1 a2 a3 k
 have ih0:=card_function_decided.mono_l k
 unfold card_function_decided.f
 repeat' first
   | (with_reducible exact ih0 _ _ _ _ _ _)
   | (with_reducible exact LeO.refl _)
   | (with_reducible exact LeO.none _)
   | (with_reducible refine LeO.ite ?_ ?_)
   | (with_reducible refine LeO.bind ?_ (fun _=>?_))
   | exact ih0 _ _ _ _ _ _
   | exact LeO.none _
   | refine LeO.ite ?_ ?_
   | refine LeO.bind ?_ (fun _=>?_)
theorem card_function_decided.calls (k:Nat) (a0_0:Int) (a0_1:ByteArray) (a1:Int) (a2:Int) (r:Bool) (w:World) (h:card_function_decided.f k a0_0 a0_1 a1 a2 = some r) :
  Calls Try.prog 113 #[.agg #[.int .i64 a0_0,.string a0_1],.int .i64 a1,.int .i64 a2] w fun e w'=>e = .returned (.bool r) ∧ Below w.heap.size w w':=by
 have hu81:=Try.underlying81
 have HB:=Aside0.mk (Below.refl w.heap.size w)
 have H:(card_function_decided.l0 k a1 a2 (a0_1.size:Int) 0 a0_0 a0_1) = some r:=h
 clear h
 have H':=Aside0.mk H
 clear H
 go_enter Try.func113,Try.ntmps113
 go_wp2_with (first | ((with_reducible refine gate_dst (N:=3) rfl ?_);refine box_event ?hg (N:=3) ?hd (cs:=#[.int .i64 a0_0,.string a0_1]) (t:=81) ?hr ?_;(case hd=>rfl);(case hg=>rfl);(case hr=>first | (go_simp;done) | (go_simp;rfl));intro gb381 hg w4 hbox hb;have n0_:=Aside0.mk (below_step (by repeat (first | (with_reducible first | exact HB.out | apply below_alloc | apply pw_below_drewN | apply below_drew1) | exact HB.out)) hb);have n1_:=Aside0.mk (hbox);have n2_:=Aside0.mk ((by rw [hg];exact (below_size (by repeat (first | (with_reducible first | exact HB.out | apply below_alloc | apply pw_below_drewN | apply below_drew1) | exact HB.out))):w.heap.size ≤ gb381));have n3_:=Aside0.mk ((by rw [hg];exact (below_size (by repeat (first | (with_reducible first | exact HB.out | apply below_alloc | apply pw_below_drewN | apply below_drew1) | exact HB.out))):w.heap.size ≤ gb381));clear HB;have HB:=n0_;have BK381:=n1_;have GW381:=n2_;have GE381:=n3_;clear n0_ n1_ n2_ n3_;clear hb hbox hg;have hcz5_0:w4.cell? ⟨gb381,0,none⟩ = some (.int .i64 a0_0):=(blk_cell BK381.out 0).trans rfl;have hcz5_1:w4.cell? ⟨gb381,1,none⟩ = some (.string a0_1):=(blk_cell BK381.out 1).trans rfl;have hfz5_0:=blk_frozen BK381.out 0;have hfz5_1:=blk_frozen BK381.out 1))
 repeat (go_quiet (first | ((with_reducible refine gate_dst (N:=3) rfl ?_);refine box_event ?hg (N:=3) ?hd (cs:=#[.int .i64 a0_0,.string a0_1]) (t:=81) ?hr ?_;(case hd=>rfl);(case hg=>rfl);(case hr=>first | (go_simp;done) | (go_simp;rfl));intro gb381 hg w4 hbox hb;have n0_:=Aside0.mk (below_step (by repeat (first | (with_reducible first | exact HB.out | apply below_alloc | apply pw_below_drewN | apply below_drew1) | exact HB.out)) hb);have n1_:=Aside0.mk (hbox);have n2_:=Aside0.mk ((by rw [hg];exact (below_size (by repeat (first | (with_reducible first | exact HB.out | apply below_alloc | apply pw_below_drewN | apply below_drew1) | exact HB.out))):w.heap.size ≤ gb381));have n3_:=Aside0.mk ((by rw [hg];exact (below_size (by repeat (first | (with_reducible first | exact HB.out | apply below_alloc | apply pw_below_drewN | apply below_drew1) | exact HB.out))):w.heap.size ≤ gb381));clear HB;have HB:=n0_;have BK381:=n1_;have GW381:=n2_;have GE381:=n3_;clear n0_ n1_ n2_ n3_;clear hb hbox hg;have hcz5_0:w4.cell? ⟨gb381,0,none⟩ = some (.int .i64 a0_0):=(blk_cell BK381.out 0).trans rfl;have hcz5_1:w4.cell? ⟨gb381,1,none⟩ = some (.string a0_1):=(blk_cell BK381.out 1).trans rfl;have hfz5_0:=blk_frozen BK381.out 0;have hfz5_1:=blk_frozen BK381.out 1));try go_wp2_with (first | ((with_reducible refine gate_dst (N:=3) rfl ?_);refine box_event ?hg (N:=3) ?hd (cs:=#[.int .i64 a0_0,.string a0_1]) (t:=81) ?hr ?_;(case hd=>rfl);(case hg=>rfl);(case hr=>first | (go_simp;done) | (go_simp;rfl));intro gb381 hg w4 hbox hb;have n0_:=Aside0.mk (below_step (by repeat (first | (with_reducible first | exact HB.out | apply below_alloc | apply pw_below_drewN | apply below_drew1) | exact HB.out)) hb);have n1_:=Aside0.mk (hbox);have n2_:=Aside0.mk ((by rw [hg];exact (below_size (by repeat (first | (with_reducible first | exact HB.out | apply below_alloc | apply pw_below_drewN | apply below_drew1) | exact HB.out))):w.heap.size ≤ gb381));have n3_:=Aside0.mk ((by rw [hg];exact (below_size (by repeat (first | (with_reducible first | exact HB.out | apply below_alloc | apply pw_below_drewN | apply below_drew1) | exact HB.out))):w.heap.size ≤ gb381));clear HB;have HB:=n0_;have BK381:=n1_;have GW381:=n2_;have GE381:=n3_;clear n0_ n1_ n2_ n3_;clear hb hbox hg;have hcz5_0:w4.cell? ⟨gb381,0,none⟩ = some (.int .i64 a0_0):=(blk_cell BK381.out 0).trans rfl;have hcz5_1:w4.cell? ⟨gb381,1,none⟩ = some (.string a0_1):=(blk_cell BK381.out 1).trans rfl;have hfz5_0:=blk_frozen BK381.out 0;have hfz5_1:=blk_frozen BK381.out 1)))
 go_loopg [11] k (fun kq v11 w'=>∃ (x11_1:Int),v11 = .int .i64 x11_1 ∧ Aside0 (card_function_decided.l0 kq a1 a2 (a0_1.size:Int) x11_1 a0_0 a0_1 = some r) ∧ Aside0 (kq ≤ k) ∧ Aside0 (w'.heap[gb381]? = some (.cells #[.int .i64 a0_0,.string a0_1] 81 (0,0))) ∧ Aside0 (Below w.heap.size w w'))
 case atStart=>exact ⟨(0),(by first | rfl | (simp;done) | (simp [*];done)),H',⟨Nat.le_refl _⟩,⟨by (with_reducible repeat (first | refine blk_drewN ?_ _ | refine blk_drew ?_ | refine blk_alloc ?_ _));exact BK381.out⟩,⟨by repeat (first | (with_reducible first | exact HB.out | apply below_alloc | apply pw_below_drewN | apply below_drew1 | refine below_set ?_ GE381.out) | exact HB.out)⟩⟩
 case round =>
  clear H'
  try clear c1
  try clear p2
  try clear hcz5_0
  try clear hcz5_1
  try clear hfz5_0
  try clear hfz5_1
  obtain ⟨x11_1,rfl,HA,HK1,BK381,HB⟩:=hrel
  cases gk with
  | zero=>exact absurd HA.out (by simp [card_function_decided.l0])
  | succ k1 =>
   have H:=HA.out
   clear HA
   simp only [card_function_decided.l0] at H
   by_cases c6:x11_1 < (a0_1.size:Int)
   case neg =>
    rw [if_neg c6] at H
    have c6b0:decide (x11_1 < (a0_1.size:Int)) = false:=decide_eq_false c6
    clear c6
    obtain rfl:=Option.some.inj H
    go_wp2
    repeat (go_quiet (fail);try go_wp2)
    go_ret
    exact ⟨by first | rfl | (simp [errW_none,errW_some] <;> rfl) | (simp [*,errW_none,errW_some] <;> rfl),by repeat (first | (with_reducible first | exact HB.out | apply below_alloc | apply pw_below_drewN | apply below_drew1 | refine below_set ?_ GE381.out) | exact HB.out)⟩
   rw [if_pos c6] at H
   have c6b0:decide (x11_1 < (a0_1.size:Int)) = true:=decide_eq_true c6
   clear c6
   by_cases c7:(Go.bits .and .i64 (Go.bits .xor .i64 a1 x11_1) a2) = 0
   case neg =>
    rw [if_neg c7] at H
    have c7b0:((Go.bits .and .i64 (Go.bits .xor .i64 a1 x11_1) a2) == 0) = false:=beq_eq_false_iff_ne.mpr c7
    have c7b1:((Go.bits .and .i64 (Go.bits .xor .i64 a1 x11_1) a2) != 0) = true:=bne_iff_ne.mpr c7
    have H':=Aside0.mk H
    clear H
    go_wp2
    repeat (go_quiet (fail);try go_wp2)
    go_roundg k1
    case measure=>have:=HK1.out;omega
    case rel=>exact ⟨(wrap64 (x11_1 + 1)),(by first | rfl | (simp;done) | (simp [*];done)),H',⟨by have:=HK1.out;omega⟩,⟨by (with_reducible repeat (first | refine blk_drewN ?_ _ | refine blk_drew ?_ | refine blk_alloc ?_ _));exact BK381.out⟩,⟨by repeat (first | (with_reducible first | exact HB.out | apply below_alloc | apply pw_below_drewN | apply below_drew1 | refine below_set ?_ GE381.out) | exact HB.out)⟩⟩
   rw [if_pos c7] at H
   have c7b0:((Go.bits .and .i64 (Go.bits .xor .i64 a1 x11_1) a2) == 0) = true:=beq_iff_eq.mpr c7
   have c7b1:((Go.bits .and .i64 (Go.bits .xor .i64 a1 x11_1) a2) != 0) = false:=bne_eq_false_iff_eq.mpr c7
   clear c7
   by_cases c8:0 ≤ x11_1
   case neg =>
    rw [if_neg c8] at H
    exact absurd H (by simp)
   rw [if_pos c8] at H
   have c8b0:decide (0 ≤ x11_1) = true:=decide_eq_true c8
   clear c8
   by_cases c9:x11_1 < (a0_1.size:Int)
   case neg =>
    rw [if_neg c9] at H
    exact absurd H (by simp)
   rw [if_pos c9] at H
   have c9b0:decide (x11_1 < (a0_1.size:Int)) = true:=decide_eq_true c9
   clear c9
   by_cases c11:0 ≤ a1
   case neg =>
    rw [if_neg c11] at H
    exact absurd H (by simp)
   rw [if_pos c11] at H
   have c11b0:decide (0 ≤ a1) = true:=decide_eq_true c11
   clear c11
   by_cases c12:a1 < (a0_1.size:Int)
   case neg =>
    rw [if_neg c12] at H
    exact absurd H (by simp)
   rw [if_pos c12] at H
   have c12b0:decide (a1 < (a0_1.size:Int)) = true:=decide_eq_true c12
   clear c12
   by_cases c14:(bt a0_1 x11_1) = (bt a0_1 a1)
   case neg =>
    rw [if_neg c14] at H
    have c14b0:((bt a0_1 x11_1) == (bt a0_1 a1)) = false:=beq_eq_false_iff_ne.mpr c14
    have c14b1:((bt a0_1 x11_1) != (bt a0_1 a1)) = true:=bne_iff_ne.mpr c14
    obtain rfl:=Option.some.inj H
    have hcz16_0:wr.cell? ⟨gb381,0,none⟩ = some (.int .i64 a0_0):=(blk_cell BK381.out 0).trans rfl
    have hcz16_1:wr.cell? ⟨gb381,1,none⟩ = some (.string a0_1):=(blk_cell BK381.out 1).trans rfl
    have hfz16_0:=blk_frozen BK381.out 0
    have hfz16_1:=blk_frozen BK381.out 1
    have p10:0 ≤ (x11_1:Int):=of_decide_eq_true (by first | (with_reducible assumption) | assumption)
    have q10:x11_1 < (a0_1.size:Int):=of_decide_eq_true (by first | (with_reducible assumption) | assumption)
    have hx10:=bt_at a0_1 x11_1
    replace p10:=eq_true p10
    replace q10:=eq_true q10
    have p13:0 ≤ (a1:Int):=of_decide_eq_true (by first | (with_reducible assumption) | assumption)
    have q13:a1 < (a0_1.size:Int):=of_decide_eq_true (by first | (with_reducible assumption) | assumption)
    have hx13:=bt_at a0_1 a1
    replace p13:=eq_true p13
    replace q13:=eq_true q13
    go_wp2
    repeat (go_quiet (fail);try go_wp2)
    go_ret
    exact ⟨by first | rfl | (simp [errW_none,errW_some] <;> rfl) | (simp [*,errW_none,errW_some] <;> rfl),by repeat (first | (with_reducible first | exact HB.out | apply below_alloc | apply pw_below_drewN | apply below_drew1 | refine below_set ?_ GE381.out) | exact HB.out)⟩
   rw [if_pos c14] at H
   have c14b0:((bt a0_1 x11_1) == (bt a0_1 a1)) = true:=beq_iff_eq.mpr c14
   have c14b1:((bt a0_1 x11_1) != (bt a0_1 a1)) = false:=bne_eq_false_iff_eq.mpr c14
   clear c14
   have H':=Aside0.mk H
   clear H
   have hcz15_0:wr.cell? ⟨gb381,0,none⟩ = some (.int .i64 a0_0):=(blk_cell BK381.out 0).trans rfl
   have hcz15_1:wr.cell? ⟨gb381,1,none⟩ = some (.string a0_1):=(blk_cell BK381.out 1).trans rfl
   have hfz15_0:=blk_frozen BK381.out 0
   have hfz15_1:=blk_frozen BK381.out 1
   have p10:0 ≤ (x11_1:Int):=of_decide_eq_true (by first | (with_reducible assumption) | assumption)
   have q10:x11_1 < (a0_1.size:Int):=of_decide_eq_true (by first | (with_reducible assumption) | assumption)
   have hx10:=bt_at a0_1 x11_1
   replace p10:=eq_true p10
   replace q10:=eq_true q10
   have p13:0 ≤ (a1:Int):=of_decide_eq_true (by first | (with_reducible assumption) | assumption)
   have q13:a1 < (a0_1.size:Int):=of_decide_eq_true (by first | (with_reducible assumption) | assumption)
   have hx13:=bt_at a0_1 a1
   replace p13:=eq_true p13
   replace q13:=eq_true q13
   go_wp2
   repeat (go_quiet (fail);try go_wp2)
   go_roundg k1
   case measure=>have:=HK1.out;omega
   case rel=>exact ⟨(wrap64 (x11_1 + 1)),(by first | rfl | (simp;done) | (simp [*];done)),H',⟨by have:=HK1.out;omega⟩,⟨by (with_reducible repeat (first | refine blk_drewN ?_ _ | refine blk_drew ?_ | refine blk_alloc ?_ _));exact BK381.out⟩,⟨by repeat (first | (with_reducible first | exact HB.out | apply below_alloc | apply pw_below_drewN | apply below_drew1 | refine below_set ?_ GE381.out) | exact HB.out)⟩⟩
def card_function_certificate.l0:Nat → Int → Int → Int → Int → Int → ByteArray → Option (Int)
 | 0,_,_,_,_,_,_=>none
 | k + 1,x1,x5,x12,x13,x383000,x383001=>if x13 < x12 then ((bits_OnesCount.f (IntKind.u64.wrap (x13))).bind fun t383=>(if t383 < x5 then ((card_function_decided.f k x383000 x383001 x1 x13).bind fun t384=>(if t384 = true then (card_function_certificate.l0 k x1 t383 x12 (wrap64 (x13 + 1)) x383000 x383001) else (card_function_certificate.l0 k x1 x5 x12 (wrap64 (x13 + 1)) x383000 x383001))) else (card_function_certificate.l0 k x1 x5 x12 (wrap64 (x13 + 1)) x383000 x383001))) else (some x5)
def card_function_certificate.f (k:Nat) (a0_0:Int) (a0_1:ByteArray) (a1:Int):Option (Int):=if 0 ≤ a0_0 then (card_function_certificate.l0 k a1 a0_0 (shl .i64 1 a0_0) 0 a0_0 a0_1) else (none)
theorem card_function_certificate.mono_l:∀ k,(∀ y0 y1 y2 y3 y4 y5,LeO (card_function_certificate.l0 k y0 y1 y2 y3 y4 y5) (card_function_certificate.l0 (k + 1) y0 y1 y2 y3 y4 y5))
 | 0=>fun _ _ _ _ _ _ r h=>by simp [card_function_certificate.l0] at h
 | k + 1=>by
  have ih0:=card_function_certificate.mono_l k
  intro y0 y1 y2 y3 y4 y5
  unfold card_function_certificate.l0
  repeat' first
  | (with_reducible exact ih0 _ _ _ _ _ _)
  | (with_reducible exact card_function_decided.mono _ _ _ _ _)
  | (with_reducible exact LeO.refl _)
  | (with_reducible exact LeO.none _)
  | (with_reducible refine LeO.ite ?_ ?_)
  | (with_reducible refine LeO.bind ?_ (fun _=>?_))
  | exact ih0 _ _ _ _ _ _
  | exact card_function_decided.mono _ _ _ _ _
  | exact LeO.none _
  | refine LeO.ite ?_ ?_
  | refine LeO.bind ?_ (fun _=>?_)
theorem card_function_certificate.mono:∀ a0 a1 a2 k,LeO (card_function_certificate.f k a0 a1 a2) (card_function_certificate.f (k + 1) a0 a1 a2):=by
 intro a0 a1 a2 k
 have ih0:=card_function_certificate.mono_l k
 unfold card_function_certificate.f
 repeat' first
   | (with_reducible exact ih0 _ _ _ _ _ _)
   | (with_reducible exact card_function_decided.mono _ _ _ _ _)
   | (with_reducible exact LeO.refl _)
   | (with_reducible exact LeO.none _)
   | (with_reducible refine LeO.ite ?_ ?_)
   | (with_reducible refine LeO.bind ?_ (fun _=>?_))
   | exact ih0 _ _ _ _ _ _
   | exact card_function_decided.mono _ _ _ _ _
   | exact LeO.none _
   | refine LeO.ite ?_ ?_
   | refine LeO.bind ?_ (fun _=>?_)
theorem card_function_certificate.calls (k:Nat) (a0_0:Int) (a0_1:ByteArray) (a1:Int) (r:Int) (w:World) (h:card_function_certificate.f k a0_0 a0_1 a1 = some r) :
  Calls Try.prog 86 #[.agg #[.int .i64 a0_0,.string a0_1],.int .i64 a1] w fun e w'=>e = .returned (.int .i64 r) ∧ Below w.heap.size w w':=by
 have hu81:=Try.underlying81
 have HB:=Aside0.mk (Below.refl w.heap.size w)
 have H:(if 0 ≤ a0_0 then (card_function_certificate.l0 k a1 a0_0 (shl .i64 1 a0_0) 0 a0_0 a0_1) else (none)) = some r:=h
 clear h
 by_cases c3:0 ≤ a0_0
 case neg =>
  rw [if_neg c3] at H
  exact absurd H (by simp)
 rw [if_pos c3] at H
 have c3b0:=eq_true c3
 have c3b1:decide (0 ≤ a0_0) = true:=decide_eq_true c3
 clear c3
 obtain ⟨ji4,hji4⟩:∃ j_:Int,(shl .i64 1 a0_0) = j_:=⟨_,rfl⟩
 replace H:(card_function_certificate.l0 k a1 a0_0 ji4 0 a0_0 a0_1) = some r:=by first | (rw [hji4] at H;exact H) | (simp only [hji4] at H ⊢;exact H)
 have hji4_:(IntKind.i64.wrap (1 * 2 ^ min a0_0.toNat 64)) = ji4:=hji4
 have hji4z:a0_0 ≤ 64 → (IntKind.i64.wrap (1 * 2 ^ a0_0.toNat)) = ji4:=shl_small hji4
 have hji4u:(IntKind.i64.wrap (2 ^ min a0_0.toNat 64)) = ji4:=by have h_:=hji4_;rw [Int.one_mul] at h_;exact h_
 have hji4v:a0_0 ≤ 64 → (IntKind.i64.wrap (2 ^ a0_0.toNat)) = ji4:=fun hle_=>by have h_:=hji4z hle_;rw [Int.one_mul] at h_;exact h_
 have hji4y:(wrap64 (1 * 2 ^ min a0_0.toNat 64)) = ji4:=(i64_w _).symm.trans hji4_
 have hji4x:a0_0 ≤ 64 → (wrap64 (1 * 2 ^ a0_0.toNat)) = ji4:=fun h_=>(i64_w _).symm.trans (hji4z h_)
 have H':=Aside0.mk H
 clear H
 go_enter Try.func86,Try.ntmps86
 go_wp2_with (first | ((with_reducible refine gate_dst (N:=2) rfl ?_);refine box_event ?hg (N:=2) ?hd (cs:=#[.int .i64 a0_0,.string a0_1]) (t:=81) ?hr ?_;(case hd=>rfl);(case hg=>rfl);(case hr=>first | (go_simp;done) | (go_simp;rfl));intro gb382 hg w5 hbox hb;have n0_:=Aside0.mk (below_step (by repeat (first | (with_reducible first | exact HB.out | apply below_alloc | apply pw_below_drewN | apply below_drew1) | exact HB.out)) hb);have n1_:=Aside0.mk (hbox);have n2_:=Aside0.mk ((by rw [hg];exact (below_size (by repeat (first | (with_reducible first | exact HB.out | apply below_alloc | apply pw_below_drewN | apply below_drew1) | exact HB.out))):w.heap.size ≤ gb382));have n3_:=Aside0.mk ((by rw [hg];exact (below_size (by repeat (first | (with_reducible first | exact HB.out | apply below_alloc | apply pw_below_drewN | apply below_drew1) | exact HB.out))):w.heap.size ≤ gb382));clear HB;have HB:=n0_;have BK382:=n1_;have GW382:=n2_;have GE382:=n3_;clear n0_ n1_ n2_ n3_;clear hb hbox hg;have hcz6_0:w5.cell? ⟨gb382,0,none⟩ = some (.int .i64 a0_0):=(blk_cell BK382.out 0).trans rfl;have hcz6_1:w5.cell? ⟨gb382,1,none⟩ = some (.string a0_1):=(blk_cell BK382.out 1).trans rfl;have hfz6_0:=blk_frozen BK382.out 0;have hfz6_1:=blk_frozen BK382.out 1))
 go_loopg [5,13] k (fun kq v5 v13 w'=>∃ (x5_1:Int) (x13_1:Int),v5 = .int .i64 x5_1 ∧ v13 = .int .i64 x13_1 ∧ Aside0 (card_function_certificate.l0 kq a1 x5_1 ji4 x13_1 a0_0 a0_1 = some r) ∧ Aside0 (kq ≤ k) ∧ Aside0 (w'.heap[gb382]? = some (.cells #[.int .i64 a0_0,.string a0_1] 81 (0,0))) ∧ Aside0 (Below w.heap.size w w'))
 case atStart=>exact ⟨(a0_0),(0),(by first | rfl | (simp;done) | (simp [*];done)),(by first | rfl | (simp;done) | (simp [*];done)),H',⟨Nat.le_refl _⟩,⟨by (with_reducible repeat (first | refine blk_drewN ?_ _ | refine blk_drew ?_ | refine blk_alloc ?_ _));exact BK382.out⟩,⟨by repeat (first | (with_reducible first | exact HB.out | apply below_alloc | apply pw_below_drewN | apply below_drew1 | refine below_set ?_ GE382.out) | exact HB.out)⟩⟩
 case round =>
  clear H'
  try clear p2
  try clear c3
  try clear c3b0
  try clear c3b1
  try clear p6
  try clear hcz6_0
  try clear hcz6_1
  try clear hfz6_0
  try clear hfz6_1
  obtain ⟨x5_1,x13_1,rfl,rfl,HA,HK1,BK382,HB⟩:=hrel
  cases gk with
  | zero=>exact absurd HA.out (by simp [card_function_certificate.l0])
  | succ k1 =>
   have H:=HA.out
   clear HA
   simp only [card_function_certificate.l0] at H
   by_cases c7:x13_1 < ji4
   case neg =>
    rw [if_neg c7] at H
    have c7b0:decide (x13_1 < ji4) = false:=decide_eq_false c7
    clear c7
    obtain rfl:=Option.some.inj H
    go_wp2
    go_ret
    exact ⟨by first | rfl | (simp [errW_none,errW_some] <;> rfl) | (simp only [← hji4];first | rfl | (simp [errW_none,errW_some] <;> rfl)) | (simp [*,errW_none,errW_some] <;> rfl),by repeat (first | (with_reducible first | exact HB.out | apply below_alloc | apply pw_below_drewN | apply below_drew1 | refine below_set ?_ GE382.out) | exact HB.out)⟩
   rw [if_pos c7] at H
   have c7b0:decide (x13_1 < ji4) = true:=decide_eq_true c7
   clear c7
   replace H:=Option.bind_eq_some_iff.mp H
   obtain ⟨t383,A80,H⟩:=H
   replace H:(if t383 < x5_1 then ((card_function_decided.f k1 a0_0 a0_1 a1 x13_1).bind fun t384=>(if t384 = true then (card_function_certificate.l0 k1 a1 t383 ji4 (wrap64 (x13_1 + 1)) a0_0 a0_1) else (card_function_certificate.l0 k1 a1 x5_1 ji4 (wrap64 (x13_1 + 1)) a0_0 a0_1))) else (card_function_certificate.l0 k1 a1 x5_1 ji4 (wrap64 (x13_1 + 1)) a0_0 a0_1)) = some r:=H
   have A8:=Aside0.mk A80
   clear A80
   by_cases c9:t383 < x5_1
   case neg =>
    rw [if_neg c9] at H
    have c9b0:decide (t383 < x5_1) = false:=decide_eq_false c9
    clear c9
    have H':=Aside0.mk H
    clear H
    go_wp2_with (first | ((with_reducible refine gate_callee (f:=84) rfl ?_);refine goesL_ (some 18) rfl rfl Try.func84 (by kernel_rfl) rfl #[.int .u64 (IntKind.u64.wrap (x13_1))] rfl (by (try simp only [List.map_toArray,List.map_cons,List.map_nil]);first | done | rfl | (simp only [List.length_drop,List.length_take];rfl)) ?_;(with_reducible refine (bits_OnesCount.calls (IntKind.u64.wrap (x13_1)) t383 _ A8.out).mono ?_);rintro e w' ⟨rfl,⟨nd,rfl⟩⟩;refine ⟨_,rfl,?_⟩))
    go_roundg k1
    case measure=>have:=HK1.out;omega
    case rel=>exact ⟨(x5_1),(wrap64 (x13_1 + 1)),(by first | rfl | (simp;done) | (simp [*];done)),(by first | rfl | (simp;done) | (simp [*];done)),H',⟨by have:=HK1.out;omega⟩,⟨by (with_reducible repeat (first | refine blk_drewN ?_ _ | refine blk_drew ?_ | refine blk_alloc ?_ _));exact BK382.out⟩,⟨by repeat (first | (with_reducible first | exact HB.out | apply below_alloc | apply pw_below_drewN | apply below_drew1 | refine below_set ?_ GE382.out) | exact HB.out)⟩⟩
   rw [if_pos c9] at H
   have c9b0:decide (t383 < x5_1) = true:=decide_eq_true c9
   clear c9
   replace H:=Option.bind_eq_some_iff.mp H
   obtain ⟨t384,A100,H⟩:=H
   replace H:(if t384 = true then (card_function_certificate.l0 k1 a1 t383 ji4 (wrap64 (x13_1 + 1)) a0_0 a0_1) else (card_function_certificate.l0 k1 a1 x5_1 ji4 (wrap64 (x13_1 + 1)) a0_0 a0_1)) = some r:=H
   have A10:=Aside0.mk A100
   clear A100
   by_cases c11:t384 = true
   ·subst c11
    have H1:(card_function_certificate.l0 k1 a1 t383 ji4 (wrap64 (x13_1 + 1)) a0_0 a0_1) = some r:=by rw [if_pos rfl] at H;exact H
    clear H
    have H:=H1
    clear H1
    have H':=Aside0.mk H
    clear H
    go_wp2_with (first | ((with_reducible refine gate_callee (f:=84) rfl ?_);refine goesL_ (some 18) rfl rfl Try.func84 (by kernel_rfl) rfl #[.int .u64 (IntKind.u64.wrap (x13_1))] rfl (by (try simp only [List.map_toArray,List.map_cons,List.map_nil]);first | done | rfl | (simp only [List.length_drop,List.length_take];rfl)) ?_;(with_reducible refine (bits_OnesCount.calls (IntKind.u64.wrap (x13_1)) t383 _ A8.out).mono ?_);rintro e w' ⟨rfl,⟨nd,rfl⟩⟩;refine ⟨_,rfl,?_⟩;have hcz12_0:wr.cell? ⟨gb382,0,none⟩ = some (.int .i64 a0_0):=(blk_cell BK382.out 0).trans rfl;have hcz12_1:wr.cell? ⟨gb382,1,none⟩ = some (.string a0_1):=(blk_cell BK382.out 1).trans rfl;have hfz12_0:=blk_frozen BK382.out 0;have hfz12_1:=blk_frozen BK382.out 1) | (go_at_call 113;(with_reducible refine (card_function_decided.calls k1 a0_0 a0_1 a1 x13_1 true _ A10.out).mono ?_);rintro e w13 ⟨rfl,hb⟩;have n0_:=Aside0.mk (blk_below (g:=gb382) (o:=.cells #[.int .i64 a0_0,.string a0_1] 81 (0,0)) (by (with_reducible repeat (first | refine blk_drewN ?_ _ | refine blk_drew ?_ | refine blk_alloc ?_ _));exact BK382.out) hb);have n1_:=Aside0.mk (below_step (by repeat (first | (with_reducible first | exact HB.out | apply below_alloc | apply pw_below_drewN | apply below_drew1 | refine below_set ?_ GE382.out) | exact HB.out)) hb);clear BK382;clear HB;have BK382:=n0_;have HB:=n1_;clear n0_ n1_;(try clear hb)))
    go_roundg k1
    case measure=>have:=HK1.out;omega
    case rel=>exact ⟨(t383),(wrap64 (x13_1 + 1)),(by first | rfl | (simp;done) | (simp [*];done)),(by first | rfl | (simp;done) | (simp [*];done)),H',⟨by have:=HK1.out;omega⟩,⟨by (with_reducible repeat (first | refine blk_drewN ?_ _ | refine blk_drew ?_ | refine blk_alloc ?_ _));exact BK382.out⟩,⟨by repeat (first | (with_reducible first | exact HB.out | apply below_alloc | apply pw_below_drewN | apply below_drew1 | refine below_set ?_ GE382.out) | exact HB.out)⟩⟩
   replace c11:=Bool.eq_false_iff.mpr c11
   subst c11
   have H1:(card_function_certificate.l0 k1 a1 x5_1 ji4 (wrap64 (x13_1 + 1)) a0_0 a0_1) = some r:=by rw [if_neg (show ¬ (false = true) by decide)] at H;exact H
   clear H
   have H:=H1
   clear H1
   have H':=Aside0.mk H
   clear H
   go_wp2_with (first | ((with_reducible refine gate_callee (f:=84) rfl ?_);refine goesL_ (some 18) rfl rfl Try.func84 (by kernel_rfl) rfl #[.int .u64 (IntKind.u64.wrap (x13_1))] rfl (by (try simp only [List.map_toArray,List.map_cons,List.map_nil]);first | done | rfl | (simp only [List.length_drop,List.length_take];rfl)) ?_;(with_reducible refine (bits_OnesCount.calls (IntKind.u64.wrap (x13_1)) t383 _ A8.out).mono ?_);rintro e w' ⟨rfl,⟨nd,rfl⟩⟩;refine ⟨_,rfl,?_⟩;have hcz14_0:wr.cell? ⟨gb382,0,none⟩ = some (.int .i64 a0_0):=(blk_cell BK382.out 0).trans rfl;have hcz14_1:wr.cell? ⟨gb382,1,none⟩ = some (.string a0_1):=(blk_cell BK382.out 1).trans rfl;have hfz14_0:=blk_frozen BK382.out 0;have hfz14_1:=blk_frozen BK382.out 1) | (go_at_call 113;(with_reducible refine (card_function_decided.calls k1 a0_0 a0_1 a1 x13_1 false _ A10.out).mono ?_);rintro e w15 ⟨rfl,hb⟩;have n0_:=Aside0.mk (blk_below (g:=gb382) (o:=.cells #[.int .i64 a0_0,.string a0_1] 81 (0,0)) (by (with_reducible repeat (first | refine blk_drewN ?_ _ | refine blk_drew ?_ | refine blk_alloc ?_ _));exact BK382.out) hb);have n1_:=Aside0.mk (below_step (by repeat (first | (with_reducible first | exact HB.out | apply below_alloc | apply pw_below_drewN | apply below_drew1 | refine below_set ?_ GE382.out) | exact HB.out)) hb);clear BK382;clear HB;have BK382:=n0_;have HB:=n1_;clear n0_ n1_;(try clear hb)))
   go_roundg k1
   case measure=>have:=HK1.out;omega
   case rel=>exact ⟨(x5_1),(wrap64 (x13_1 + 1)),(by first | rfl | (simp;done) | (simp [*];done)),(by first | rfl | (simp;done) | (simp [*];done)),H',⟨by have:=HK1.out;omega⟩,⟨by (with_reducible repeat (first | refine blk_drewN ?_ _ | refine blk_drew ?_ | refine blk_alloc ?_ _));exact BK382.out⟩,⟨by repeat (first | (with_reducible first | exact HB.out | apply below_alloc | apply pw_below_drewN | apply below_drew1 | refine below_set ?_ GE382.out) | exact HB.out)⟩⟩
def card_function_ones.l0:Nat → List Int → Int → Int → Int → ByteArray → Option (List Int)
 | 0,_,_,_,_,_=>none
 | k + 1,x3,x7,x8,x154000,x154001=>if x8 < x7 then (if 0 ≤ x8 then (if x8 < (x154001.size:Int) then (if (bt x154001 x8) = 49 then (if x3.length < 17592186044416 then (card_function_ones.l0 k (x3 ++ [x8]) x7 (wrap64 (x8 + 1)) x154000 x154001) else (none)) else (card_function_ones.l0 k x3 x7 (wrap64 (x8 + 1)) x154000 x154001)) else (none)) else (none)) else (some x3)
def card_function_ones.f (k:Nat) (a0_0:Int) (a0_1:ByteArray):Option (List Int):=card_function_ones.l0 k ([]:List Int) (a0_1.size:Int) 0 a0_0 a0_1
theorem card_function_ones.mono_l:∀ k,(∀ y0 y1 y2 y3 y4,LeO (card_function_ones.l0 k y0 y1 y2 y3 y4) (card_function_ones.l0 (k + 1) y0 y1 y2 y3 y4))
 | 0=>fun _ _ _ _ _ r h=>by simp [card_function_ones.l0] at h
 | k + 1=>by
  have ih0:=card_function_ones.mono_l k
  intro y0 y1 y2 y3 y4
  unfold card_function_ones.l0
  repeat' first
  | (with_reducible exact ih0 _ _ _ _ _)
  | (with_reducible exact LeO.refl _)
  | (with_reducible exact LeO.none _)
  | (with_reducible refine LeO.ite ?_ ?_)
  | (with_reducible refine LeO.bind ?_ (fun _=>?_))
  | exact ih0 _ _ _ _ _
  | exact LeO.none _
  | refine LeO.ite ?_ ?_
  | refine LeO.bind ?_ (fun _=>?_)
theorem card_function_ones.mono:∀ a0 a1 k,LeO (card_function_ones.f k a0 a1) (card_function_ones.f (k + 1) a0 a1):=by
 intro a0 a1 k
 have ih0:=card_function_ones.mono_l k
 unfold card_function_ones.f
 repeat' first
   | (with_reducible exact ih0 _ _ _ _ _)
   | (with_reducible exact LeO.refl _)
   | (with_reducible exact LeO.none _)
   | (with_reducible refine LeO.ite ?_ ?_)
   | (with_reducible refine LeO.bind ?_ (fun _=>?_))
   | exact ih0 _ _ _ _ _
   | exact LeO.none _
   | refine LeO.ite ?_ ?_
   | refine LeO.bind ?_ (fun _=>?_)
theorem card_function_ones.calls (k:Nat) (a0_0:Int) (a0_1:ByteArray) (r:List Int) (w:World) (h:card_function_ones.f k a0_0 a0_1 = some r) :
  Calls Try.prog 87 #[.agg #[.int .i64 a0_0,.string a0_1]] w fun e w'=>∃ v0_:Value,e = .returned (v0_) ∧ Kd.R (Kd.int .i64) 3 w' w.heap.size (fun _=>True) v0_ r ∧ Below w.heap.size w w':=by
 have hu81:=Try.underlying81
 have HB:=Aside0.mk (Below.refl w.heap.size w)
 have H:(card_function_ones.l0 k ([]:List Int) (a0_1.size:Int) 0 a0_0 a0_1) = some r:=h
 clear h
 have H':=Aside0.mk H
 clear H
 go_enter Try.func87,Try.ntmps87
 go_wp2_with (first | ((with_reducible refine gate_dst (N:=1) rfl ?_);refine box_event ?hg (N:=1) ?hd (cs:=#[.int .i64 a0_0,.string a0_1]) (t:=81) ?hr ?_;(case hd=>rfl);(case hg=>rfl);(case hr=>first | (go_simp;done) | (go_simp;rfl));intro gb153 hg w2 hbox hb;have n0_:=Aside0.mk (below_step (by repeat (first | (with_reducible first | exact HB.out | apply below_alloc | apply pw_below_drewN | apply below_drew1) | exact HB.out)) hb);have n1_:=Aside0.mk (hbox);have n2_:=Aside0.mk ((by rw [hg];exact (below_size (by repeat (first | (with_reducible first | exact HB.out | apply below_alloc | apply pw_below_drewN | apply below_drew1) | exact HB.out))):w.heap.size ≤ gb153));have n3_:=Aside0.mk ((by rw [hg];exact (below_size (by repeat (first | (with_reducible first | exact HB.out | apply below_alloc | apply pw_below_drewN | apply below_drew1) | exact HB.out))):w.heap.size ≤ gb153));clear HB;have HB:=n0_;have BK153:=n1_;have GW153:=n2_;have GE153:=n3_;clear n0_ n1_ n2_ n3_;clear hb hbox hg;have hcz3_0:w2.cell? ⟨gb153,0,none⟩ = some (.int .i64 a0_0):=(blk_cell BK153.out 0).trans rfl;have hcz3_1:w2.cell? ⟨gb153,1,none⟩ = some (.string a0_1):=(blk_cell BK153.out 1).trans rfl;have hfz3_0:=blk_frozen BK153.out 0;have hfz3_1:=blk_frozen BK153.out 1))
 go_loopg [3,8] k (fun kq v3 v8 w'=>∃ (x3_1:List Int) (x8_1:Int),v8 = .int .i64 x8_1 ∧ Aside0 (card_function_ones.l0 kq x3_1 (a0_1.size:Int) x8_1 a0_0 a0_1 = some r) ∧ Aside0 (kq ≤ k) ∧ Aside0 (Kd.R (Kd.int .i64) 3 w' w.heap.size (fun _=>True) v3 x3_1) ∧ Aside0 (w'.heap[gb153]? = some (.cells #[.int .i64 a0_0,.string a0_1] 81 (0,0))) ∧ Aside0 (Below w.heap.size w w'))
 case atStart=>exact ⟨(([]:List Int)),(0),(by first | rfl | (simp;done) | (simp [*];done)),H',⟨Nat.le_refl _⟩,⟨by first | exact Kd.R_nil _ _ _ _ _ | exact Kd.N_nil _ _ _ _ _ | exact Kd.V_nil _ _ _ _ _ | exact Kd.Q_nil _ _ _ _ _ | exact Kd.S_nil _ _ _ _ _⟩,⟨by (with_reducible repeat (first | refine blk_drewN ?_ _ | refine blk_drew ?_ | refine blk_alloc ?_ _));exact BK153.out⟩,⟨by repeat (first | (with_reducible first | exact HB.out | apply below_alloc | apply pw_below_drewN | apply below_drew1 | refine below_set ?_ GE153.out) | exact HB.out)⟩⟩
 case round =>
  clear H'
  try clear p2
  try clear hcz3_0
  try clear hcz3_1
  try clear hfz3_0
  try clear hfz3_1
  obtain ⟨x3_1,x8_1,rfl,HA,HK1,HO_3,BK153,HB⟩:=hrel
  cases gk with
  | zero=>exact absurd HA.out (by simp [card_function_ones.l0])
  | succ k1 =>
   have H:=HA.out
   clear HA
   simp only [card_function_ones.l0] at H
   by_cases c4:x8_1 < (a0_1.size:Int)
   case neg =>
    rw [if_neg c4] at H
    have c4b0:decide (x8_1 < (a0_1.size:Int)) = false:=decide_eq_false c4
    clear c4
    obtain rfl:=Option.some.inj H
    go_wp2
    go_ret
    exact ⟨_,by first | rfl | (simp [errW_none,errW_some] <;> rfl) | (simp [*,errW_none,errW_some] <;> rfl),by (with_reducible repeat (first | apply Kd.R_alloc | apply Kd.R_drewN | apply Kd.R_drew));exact HO_3.out,by repeat (first | (with_reducible first | exact HB.out | apply below_alloc | apply pw_below_drewN | apply below_drew1 | refine below_set ?_ GE153.out) | exact HB.out)⟩
   rw [if_pos c4] at H
   have c4b0:decide (x8_1 < (a0_1.size:Int)) = true:=decide_eq_true c4
   clear c4
   by_cases c5:0 ≤ x8_1
   case neg =>
    rw [if_neg c5] at H
    exact absurd H (by simp)
   rw [if_pos c5] at H
   have c5b0:decide (0 ≤ x8_1) = true:=decide_eq_true c5
   clear c5
   by_cases c6:x8_1 < (a0_1.size:Int)
   case neg =>
    rw [if_neg c6] at H
    exact absurd H (by simp)
   rw [if_pos c6] at H
   have c6b0:decide (x8_1 < (a0_1.size:Int)) = true:=decide_eq_true c6
   clear c6
   by_cases c8:(bt a0_1 x8_1) = 49
   case neg =>
    rw [if_neg c8] at H
    have c8b0:((bt a0_1 x8_1) == 49) = false:=beq_eq_false_iff_ne.mpr c8
    have c8b1:((bt a0_1 x8_1) != 49) = true:=bne_iff_ne.mpr c8
    have H':=Aside0.mk H
    clear H
    have hcz12_0:wr.cell? ⟨gb153,0,none⟩ = some (.int .i64 a0_0):=(blk_cell BK153.out 0).trans rfl
    have hcz12_1:wr.cell? ⟨gb153,1,none⟩ = some (.string a0_1):=(blk_cell BK153.out 1).trans rfl
    have hfz12_0:=blk_frozen BK153.out 0
    have hfz12_1:=blk_frozen BK153.out 1
    have p7:0 ≤ (x8_1:Int):=of_decide_eq_true (by first | (with_reducible assumption) | assumption)
    have q7:x8_1 < (a0_1.size:Int):=of_decide_eq_true (by first | (with_reducible assumption) | assumption)
    have hx7:=bt_at a0_1 x8_1
    replace p7:=eq_true p7
    replace q7:=eq_true q7
    go_wp2
    go_roundg k1
    case measure=>have:=HK1.out;omega
    case rel=>exact ⟨(x3_1),(wrap64 (x8_1 + 1)),(by first | rfl | (simp;done) | (simp [*];done)),H',⟨by have:=HK1.out;omega⟩,⟨by (with_reducible repeat (first | apply Kd.R_alloc | apply Kd.R_drewN | apply Kd.R_drew));exact HO_3.out⟩,⟨by (with_reducible repeat (first | refine blk_drewN ?_ _ | refine blk_drew ?_ | refine blk_alloc ?_ _));exact BK153.out⟩,⟨by repeat (first | (with_reducible first | exact HB.out | apply below_alloc | apply pw_below_drewN | apply below_drew1 | refine below_set ?_ GE153.out) | exact HB.out)⟩⟩
   rw [if_pos c8] at H
   have c8b0:((bt a0_1 x8_1) == 49) = true:=beq_iff_eq.mpr c8
   have c8b1:((bt a0_1 x8_1) != 49) = false:=bne_eq_false_iff_eq.mpr c8
   clear c8
   by_cases c9:x3_1.length < 17592186044416
   case neg =>
    rw [if_neg c9] at H
    exact absurd H (by simp)
   rw [if_pos c9] at H
   have LMc9:=Aside0.mk c9
   clear c9
   obtain ⟨y154,hy154⟩:∃ y_:List Int,y_ = (x3_1 ++ [x8_1]):=⟨_,rfl⟩
   replace H:(card_function_ones.l0 k1 y154 (a0_1.size:Int) (wrap64 (x8_1 + 1)) a0_0 a0_1) = some r:=by first | (rw [hy154];with_reducible exact H) | (have H2_:=(Option.bind_some _ _).symm.trans H;rw [hy154];with_reducible exact H2_) | (have H2_:=(Option.bind_some _ _).symm.trans H;with_reducible exact H2_) | with_reducible exact H | (rw [hy154];exact H) | exact H
   have Ny154:=Aside0.mk hy154
   clear hy154
   have H':=Aside0.mk H
   clear H
   have hcz10_0:wr.cell? ⟨gb153,0,none⟩ = some (.int .i64 a0_0):=(blk_cell BK153.out 0).trans rfl
   have hcz10_1:wr.cell? ⟨gb153,1,none⟩ = some (.string a0_1):=(blk_cell BK153.out 1).trans rfl
   have hfz10_0:=blk_frozen BK153.out 0
   have hfz10_1:=blk_frozen BK153.out 1
   have p7:0 ≤ (x8_1:Int):=of_decide_eq_true (by first | (with_reducible assumption) | assumption)
   have q7:x8_1 < (a0_1.size:Int):=of_decide_eq_true (by first | (with_reducible assumption) | assumption)
   have hx7:=bt_at a0_1 x8_1
   replace p7:=eq_true p7
   replace q7:=eq_true q7
   go_wp2_with (first | ((with_reducible refine gate_builtin (b:=.append) (xs:=#[.tmp 16,.tmp 18]) rfl ?_);at_builtin;refine Kd.R_append (Kd.int .i64) (w0:=w) w.heap.size rfl (.tmp 16) (.tmp 18) 22 3 (.int .i64 0) 8 rfl Try.underlying22 info3 rfl (by decide) (by omega) u3 x3_1 x8_1 [.int .i64 x8_1] (fun _=>True) (fun _=>False) rfl rfl ?aP (fun _ hk=>hk.elim) ?aF ?aO ?aB ?aS ?aL ?_;(case aP=>exact rfl);(case aB=>exact (by repeat (first | (with_reducible first | exact HB.out | apply below_alloc | apply pw_below_drewN | apply below_drew1 | refine below_set ?_ GE153.out) | exact HB.out)));(case aF=>exact (fun _ _=>trivial));(case aO=>exact (by (with_reducible repeat (first | apply Kd.R_alloc | apply Kd.R_drewN | apply Kd.R_drew));exact HO_3.out));(case aS=>exact (below_size (by repeat (first | (with_reducible first | exact HB.out | apply below_alloc | apply pw_below_drewN | apply below_drew1 | refine below_set ?_ GE153.out) | exact HB.out))));(case aL=>have:=LMc9.out;omega);intro v155 w11 ho hb hg hat;rw [← Ny154.out] at ho;have n0_:=Aside0.mk (blk_grown (g:=gb153) (o:=.cells #[.int .i64 a0_0,.string a0_1] 81 (0,0)) (by (with_reducible repeat (first | refine blk_drewN ?_ _ | refine blk_drew ?_ | refine blk_alloc ?_ _));exact BK153.out) hg (Kd.R_ne HO_3.out BK153.out (by decide)));have n1_:=Aside0.mk (hb);have n2_:=Aside0.mk (ho);clear BK153;clear HB;clear HO_3;have BK153:=n0_;have HB:=n1_;have HO156:=n2_;clear n0_ n1_ n2_;clear ho hb hg hat))
   go_roundg k1
   case measure=>have:=HK1.out;omega
   case rel=>exact ⟨(y154),(wrap64 (x8_1 + 1)),(by first | rfl | (simp;done) | (simp [*];done)),H',⟨by have:=HK1.out;omega⟩,⟨by (with_reducible repeat (first | apply Kd.R_alloc | apply Kd.R_drewN | apply Kd.R_drew));exact HO156.out⟩,⟨by (with_reducible repeat (first | refine blk_drewN ?_ _ | refine blk_drew ?_ | refine blk_alloc ?_ _));exact BK153.out⟩,⟨by repeat (first | (with_reducible first | exact HB.out | apply below_alloc | apply pw_below_drewN | apply below_drew1 | refine below_set ?_ GE153.out) | exact HB.out)⟩⟩
end Go.Proofs.Ythpahlkhiknofaa.G
namespace Go.Proofs.Ythpahlkhiknofaa.G
open Go Go.RowKit Go.Proofs.YthpahlkhiknofaaW.PrintWords
theorem setCell_drewN (W:World) (n:Nat) (a:Addr) (v:Value):(W.drewN n).setCell a v = (W.setCell a v).drewN n:=rfl
end Go.Proofs.Ythpahlkhiknofaa.G
namespace Go.Proofs.Ythpahlkhiknofaa.G
open Go.RowKit Go.Proofs.YthpahlkhiknofaaW.PrintWords Go.Proofs.YthpahlkhiknofaaW.PrintLast Go.Proofs.YthpahlkhiknofaaW.PrintMore
set_option maxHeartbeats 8000000
set_option maxRecDepth 100000
attribute [local go_sem] max2_int min2_int max_two min_two max_three min_three max_four min_four   -- for this text's walks alone
def card_Measures.l0:Nat → ByteArray → Int → Int → Int → ByteArray → Int → Int → Int → Int → Option (Int × Int × Int × Int × Int)
 | 0,_,_,_,_,_,_,_,_,_=>none
 | k + 1,x7,x20,x21,x390000,x390001,x391000,x391001,x391002,x391003=>if x21 < x20 then (if 0 ≤ x21 then (if x21 < (x7.size:Int) then (if (bt x7 x21) = 49 then ((bits_OnesCount.f (IntKind.u64.wrap (x21))).bind fun t395=>((card_function_sensitivity.f k x390000 x390001 x21).bind fun t396=>((card_function_certificate.f k x390000 x390001 x21).bind fun t397=>(card_Measures.l0 k x7 x20 (wrap64 (x21 + 1)) x390000 x390001 (mx x391000 t395) (mx x391001 t396) (mx x391002 t397) x391003)))) else ((card_function_sensitivity.f k x390000 x390001 x21).bind fun t398=>((card_function_certificate.f k x390000 x390001 x21).bind fun t399=>(card_Measures.l0 k x7 x20 (wrap64 (x21 + 1)) x390000 x390001 x391000 (mx x391001 t398) (mx x391002 t399) x391003)))) else (none)) else (none)) else ((card_function_ones.f k x390000 x390001).bind fun t392=>(some (x391000,x391001,x391002,(t392.length:Int),0)))
def card_Measures.f (k:Nat) (a0:ByteArray):Option (Int × Int × Int × Int × Int):=(card_newTotal.f a0).bind fun bt386=>(if bt386.2.2 = true then ((card_function_sum.f k bt386.1 bt386.2.1).bind fun t391=>(card_Measures.l0 k t391 (a0.size:Int) 0 bt386.1 bt386.2.1 0 0 0 0)) else (some (0,0,0,0,2)))
theorem card_Measures.mono_l:∀ k,(∀ y0 y1 y2 y3 y4 y5 y6 y7 y8,LeO (card_Measures.l0 k y0 y1 y2 y3 y4 y5 y6 y7 y8) (card_Measures.l0 (k + 1) y0 y1 y2 y3 y4 y5 y6 y7 y8))
 | 0=>fun _ _ _ _ _ _ _ _ _ r h=>by simp [card_Measures.l0] at h
 | k + 1=>by
  have ih0:=card_Measures.mono_l k
  intro y0 y1 y2 y3 y4 y5 y6 y7 y8
  unfold card_Measures.l0
  repeat' first
  | (with_reducible exact ih0 _ _ _ _ _ _ _ _ _)
  | (with_reducible exact card_function_certificate.mono _ _ _ _)
  | (with_reducible exact card_function_ones.mono _ _ _)
  | (with_reducible exact card_function_sensitivity.mono _ _ _ _)
  | (with_reducible exact card_function_sum.mono _ _ _)
  | (with_reducible exact LeO.refl _)
  | (with_reducible exact LeO.none _)
  | (with_reducible refine LeO.ite ?_ ?_)
  | (with_reducible refine LeO.bind ?_ (fun _=>?_))
  | exact ih0 _ _ _ _ _ _ _ _ _
  | exact card_function_certificate.mono _ _ _ _
  | exact card_function_ones.mono _ _ _
  | exact card_function_sensitivity.mono _ _ _ _
  | exact card_function_sum.mono _ _ _
  | exact LeO.none _
  | refine LeO.ite ?_ ?_
  | refine LeO.bind ?_ (fun _=>?_)
theorem card_Measures.mono:∀ a0 k,LeO (card_Measures.f k a0) (card_Measures.f (k + 1) a0):=by
 intro a0 k
 have ih0:=card_Measures.mono_l k
 unfold card_Measures.f
 repeat' first
   | (with_reducible exact ih0 _ _ _ _ _ _ _ _ _)
   | (with_reducible exact card_function_certificate.mono _ _ _ _)
   | (with_reducible exact card_function_ones.mono _ _ _)
   | (with_reducible exact card_function_sensitivity.mono _ _ _ _)
   | (with_reducible exact card_function_sum.mono _ _ _)
   | (with_reducible exact LeO.refl _)
   | (with_reducible exact LeO.none _)
   | (with_reducible refine LeO.ite ?_ ?_)
   | (with_reducible refine LeO.bind ?_ (fun _=>?_))
   | exact ih0 _ _ _ _ _ _ _ _ _
   | exact card_function_certificate.mono _ _ _ _
   | exact card_function_ones.mono _ _ _
   | exact card_function_sensitivity.mono _ _ _ _
   | exact card_function_sum.mono _ _ _
   | exact LeO.none _
   | refine LeO.ite ?_ ?_
   | refine LeO.bind ?_ (fun _=>?_)
def card_Measures.T10:Bool × List (List Nat × List Nat):=(true,[([],[]),([0],[0]),([],[]),([2],[2]),([3],[3]),([1,4],[1,4]),([0,1,2,3,4,5],[]),([6,5,4,0,1,2,3,4,5],[5,6])])
def card_Measures.B10:List Nat:=[0,1,0,4,12,31,63,127]
theorem card_Measures.tab10:rtab .any (opsOf Try.f49 10) = card_Measures.T10:=by kernel_rfl
theorem card_Measures.bits10:waitsOk card_Measures.T10.2 card_Measures.B10 = true:=by kernel_rfl
def card_Measures.T11:Bool × List (List Nat × List Nat):=(true,[([],[]),([0],[0]),([],[]),([],[]),([2,3],[2,3]),([1,4],[1,4]),([0,1,2,3,4,5],[]),([6,5,4,0,1,2,3,4,5],[5,6])])
def card_Measures.B11:List Nat:=[0,1,0,0,12,31,63,127]
theorem card_Measures.tab11:rtab .any (opsOf Try.f49 11) = card_Measures.T11:=by kernel_rfl
theorem card_Measures.bits11:waitsOk card_Measures.T11.2 card_Measures.B11 = true:=by kernel_rfl
def card_Measures.T12:Bool × List (List Nat × List Nat):=(true,[([],[]),([0],[0]),([],[]),([],[]),([2,3],[2,3]),([1,4],[1,4]),([0,1,2,3,4,5],[]),([6,5,4,0,1,2,3,4,5],[5,6])])
def card_Measures.B12:List Nat:=[0,1,0,0,12,31,63,127]
theorem card_Measures.tab12:rtab .any (opsOf Try.f49 12) = card_Measures.T12:=by kernel_rfl
theorem card_Measures.bits12:waitsOk card_Measures.T12.2 card_Measures.B12 = true:=by kernel_rfl
theorem card_Measures.calls (k:Nat) (a0:ByteArray) (r1:Int) (r2:Int) (r3:Int) (r4:Int) (r5:Int) (w:World) (h:card_Measures.f k a0 = some (r1,r2,r3,r4,r5)) :
  Calls Try.prog 49 #[.string a0] w fun e w'=>e = .returned (.tuple #[.agg #[.int .i64 r1,.int .i64 r2,.int .i64 r3,.int .i64 r4],.int .i64 r5]) ∧ Below w.heap.size w w':=by
 have hu65:=Try.underlying65
 have hu81:=Try.underlying81
 have HB:=Aside0.mk (Below.refl w.heap.size w)
 have H:((card_newTotal.f a0).bind fun bt386=>(if bt386.2.2 = true then ((card_function_sum.f k bt386.1 bt386.2.1).bind fun t391=>(card_Measures.l0 k t391 (a0.size:Int) 0 bt386.1 bt386.2.1 0 0 0 0)) else (some (0,0,0,0,2)))) = some (r1,r2,r3,r4,r5):=h
 clear h
 replace H:=Option.bind_eq_some_iff.mp H
 obtain ⟨⟨t386,t387,t388⟩,A20,H⟩:=H
 replace H:(if t388 = true then ((card_function_sum.f k t386 t387).bind fun t391=>(card_Measures.l0 k t391 (a0.size:Int) 0 t386 t387 0 0 0 0)) else (some (0,0,0,0,2))) = some (r1,r2,r3,r4,r5):=H
 have A2:=Aside0.mk A20
 clear A20
 by_cases c3:t388 = true
 case neg =>
  replace c3:=Bool.eq_false_iff.mpr c3
  subst c3
  have H1:(some (0,0,0,0,2)) = some (r1,r2,r3,r4,r5):=by rw [if_neg (show ¬ (false = true) by decide)] at H;exact H
  clear H
  have H:=H1
  clear H1
  simp only [Option.some.injEq,Prod.mk.injEq] at H
  obtain ⟨rfl,rfl,rfl,rfl,rfl⟩:=H
  go_enter Try.func49,Try.ntmps49
  go_wp2_with (first | ((with_reducible refine gate_dst (N:=2) rfl ?_);refine box_event ?hg (N:=2) ?hd (cs:=#[.int .i64 0,.int .i64 0,.int .i64 0,.int .i64 0]) (t:=65) ?hr ?_;(case hd=>rfl);(case hg=>rfl);(case hr=>first | (go_simp;done) | (go_simp;rfl));intro gb385 hg w55 hbox hb;have n0_:=Aside0.mk (below_step (by repeat (first | (with_reducible first | exact HB.out | apply below_alloc | apply pw_below_drewN | apply below_drew1) | exact HB.out)) hb);have n1_:=Aside0.mk (hbox);have n2_:=Aside0.mk ((by rw [hg];exact (below_size (by repeat (first | (with_reducible first | exact HB.out | apply below_alloc | apply pw_below_drewN | apply below_drew1) | exact HB.out))):w.heap.size ≤ gb385));have n3_:=Aside0.mk ((by rw [hg];exact (below_size (by repeat (first | (with_reducible first | exact HB.out | apply below_alloc | apply pw_below_drewN | apply below_drew1) | exact HB.out))):w.heap.size ≤ gb385));clear HB;have HB:=n0_;have BK385:=n1_;have GW385:=n2_;have GE385:=n3_;clear n0_ n1_ n2_ n3_;clear hb hbox hg) | ((with_reducible refine gate_callee (f:=58) rfl ?_);refine goesL_ (some 11) rfl rfl Try.func58 (by kernel_rfl) rfl #[.string a0] rfl (by (try simp only [List.map_toArray,List.map_cons,List.map_nil]);first | done | rfl | (simp only [List.length_drop,List.length_take];rfl)) ?_;(with_reducible refine (card_newTotal.calls a0 t386 t387 false _ A2.out).mono ?_);rintro e w56 ⟨rfl,hb⟩;refine ⟨_,rfl,?_⟩;have n0_:=Aside0.mk (blk_below (g:=gb385) (o:=.cells #[.int .i64 0,.int .i64 0,.int .i64 0,.int .i64 0] 65 (0,0)) (by (with_reducible repeat (first | refine blk_drewN ?_ _ | refine blk_drew ?_ | refine blk_alloc ?_ _));exact BK385.out) hb);have n1_:=Aside0.mk (below_step (by repeat (first | (with_reducible first | exact HB.out | apply below_alloc | apply pw_below_drewN | apply below_drew1 | refine below_set ?_ GE385.out) | exact HB.out)) hb);clear BK385;clear HB;have BK385:=n0_;have HB:=n1_;clear n0_ n1_;(try clear hb)) | ((with_reducible refine gate_dst (N:=4) rfl ?_);refine box_event ?hg (N:=4) ?hd (cs:=#[.int .i64 0,.string (⟨#[]⟩:ByteArray)]) (t:=81) ?hr ?_;(case hd=>rfl);(case hg=>rfl);(case hr=>first | (go_simp;done) | (go_simp;rfl));intro gb389 hg w57 hbox hb;have n0_:=Aside0.mk (blk_below (g:=gb385) (o:=.cells #[.int .i64 0,.int .i64 0,.int .i64 0,.int .i64 0] 65 (0,0)) (by (with_reducible repeat (first | refine blk_drewN ?_ _ | refine blk_drew ?_ | refine blk_alloc ?_ _));exact BK385.out) hb);have n1_:=Aside0.mk (below_step (by repeat (first | (with_reducible first | exact HB.out | apply below_alloc | apply pw_below_drewN | apply below_drew1 | refine below_set ?_ GE385.out) | exact HB.out)) hb);have n2_:=Aside0.mk (hbox);have n3_:=Aside0.mk ((by rw [hg];exact (below_size (by repeat (first | (with_reducible first | exact HB.out | apply below_alloc | apply pw_below_drewN | apply below_drew1 | refine below_set ?_ GE385.out) | exact HB.out))):w.heap.size ≤ gb389));have n4_:=Aside0.mk ((by rw [hg];exact (below_size (by repeat (first | (with_reducible first | exact HB.out | apply below_alloc | apply pw_below_drewN | apply below_drew1 | refine below_set ?_ GE385.out) | exact HB.out))):w.heap.size ≤ gb389));have n5_:=Aside0.mk ((by rw [hg];exact Nat.ne_of_lt (blk_lt (g:=gb385) (o:=.cells #[.int .i64 0,.int .i64 0,.int .i64 0,.int .i64 0] 65 (0,0)) (by (with_reducible repeat (first | refine blk_drewN ?_ _ | refine blk_drew ?_ | refine blk_alloc ?_ _));exact BK385.out)):gb385 ≠ gb389));have n6_:=Aside0.mk ((by rw [hg];exact Nat.ne_of_gt (blk_lt (g:=gb385) (o:=.cells #[.int .i64 0,.int .i64 0,.int .i64 0,.int .i64 0] 65 (0,0)) (by (with_reducible repeat (first | refine blk_drewN ?_ _ | refine blk_drew ?_ | refine blk_alloc ?_ _));exact BK385.out)):gb389 ≠ gb385));clear BK385;clear HB;have BK385:=n0_;have HB:=n1_;have BK389:=n2_;have GW389:=n3_;have GE389:=n4_;have NB385_389:=n5_;have NB389_385:=n6_;clear n0_ n1_ n2_ n3_ n4_ n5_ n6_;clear hb hbox hg;have hnb58:=NB389_385.out;have hnc58:=NB385_389.out;have hcz59_0:w57.cell? ⟨gb389,0,none⟩ = some (.int .i64 0):=(blk_cell BK389.out 0).trans rfl;have hcz59_1:w57.cell? ⟨gb389,1,none⟩ = some (.string (⟨#[]⟩:ByteArray)):=(blk_cell BK389.out 1).trans rfl;have hfz59_0:=blk_frozen BK389.out 0;have hfz59_1:=blk_frozen BK389.out 1;have hcz60_0:w57.cell? ⟨gb385,0,none⟩ = some (.int .i64 0):=(blk_cell BK385.out 0).trans rfl;have hcz60_1:w57.cell? ⟨gb385,1,none⟩ = some (.int .i64 0):=(blk_cell BK385.out 1).trans rfl;have hcz60_2:w57.cell? ⟨gb385,2,none⟩ = some (.int .i64 0):=(blk_cell BK385.out 2).trans rfl;have hcz60_3:w57.cell? ⟨gb385,3,none⟩ = some (.int .i64 0):=(blk_cell BK385.out 3).trans rfl;have hfz60_0:=blk_frozen BK385.out 0;have hfz60_1:=blk_frozen BK385.out 1;have hfz60_2:=blk_frozen BK385.out 2;have hfz60_3:=blk_frozen BK385.out 3))
  refine bodyPost_ret (results_ct rfl _ _ gb385 65 #[.int .i64 0,.int .i64 0,.int .i64 0,.int .i64 0] (0,0) _ rfl (by (with_reducible repeat (first | refine blk_drewN ?_ _ | refine blk_drew ?_ | refine blk_alloc ?_ _));refine blk_put (cs:=#[.int .i64 0,.int .i64 0,.int .i64 0,.int .i64 0]) ?_ 3 _ rfl;(with_reducible repeat (first | refine blk_drewN ?_ _ | refine blk_drew ?_ | refine blk_alloc ?_ _));refine blk_put (cs:=#[.int .i64 0,.int .i64 0,.int .i64 0,.int .i64 0]) ?_ 2 _ rfl;(with_reducible repeat (first | refine blk_drewN ?_ _ | refine blk_drew ?_ | refine blk_alloc ?_ _));refine blk_put (cs:=#[.int .i64 0,.int .i64 0,.int .i64 0,.int .i64 0]) ?_ 1 _ rfl;(with_reducible repeat (first | refine blk_drewN ?_ _ | refine blk_drew ?_ | refine blk_alloc ?_ _));refine blk_put (cs:=#[.int .i64 0,.int .i64 0,.int .i64 0,.int .i64 0]) ?_ 0 _ rfl;(with_reducible repeat (first | refine blk_drewN ?_ _ | refine blk_drew ?_ | refine blk_alloc ?_ _));refine blk_far ?_ NB385_389.out _;(with_reducible repeat (first | refine blk_drewN ?_ _ | refine blk_drew ?_ | refine blk_alloc ?_ _));refine blk_far ?_ NB385_389.out _;(with_reducible repeat (first | refine blk_drewN ?_ _ | refine blk_drew ?_ | refine blk_alloc ?_ _));exact BK385.out) Try.underlying65 rfl (by kernel_rfl)) rfl ?_
  exact ⟨by first | rfl | (simp [errW_none,errW_some] <;> rfl) | (simp [*,errW_none,errW_some] <;> rfl),by repeat (first | (with_reducible first | exact HB.out | apply below_alloc | apply pw_below_drewN | apply below_drew1 | refine below_set ?_ GE385.out | refine below_set ?_ GE389.out) | exact HB.out)⟩
 subst c3
 have H1:((card_function_sum.f k t386 t387).bind fun t391=>(card_Measures.l0 k t391 (a0.size:Int) 0 t386 t387 0 0 0 0)) = some (r1,r2,r3,r4,r5):=by rw [if_pos rfl] at H;exact H
 clear H
 have H:=H1
 clear H1
 replace H:=Option.bind_eq_some_iff.mp H
 obtain ⟨t391,A40,H⟩:=H
 replace H:(card_Measures.l0 k t391 (a0.size:Int) 0 t386 t387 0 0 0 0) = some (r1,r2,r3,r4,r5):=H
 have A4:=Aside0.mk A40
 clear A40
 have H':=Aside0.mk H
 clear H
 go_enter Try.func49,Try.ntmps49
 go_wp2_with (first | ((with_reducible refine gate_dst (N:=2) rfl ?_);refine box_event ?hg (N:=2) ?hd (cs:=#[.int .i64 0,.int .i64 0,.int .i64 0,.int .i64 0]) (t:=65) ?hr ?_;(case hd=>rfl);(case hg=>rfl);(case hr=>first | (go_simp;done) | (go_simp;rfl));intro gb385 hg w5 hbox hb;have n0_:=Aside0.mk (below_step (by repeat (first | (with_reducible first | exact HB.out | apply below_alloc | apply pw_below_drewN | apply below_drew1) | exact HB.out)) hb);have n1_:=Aside0.mk (hbox);have n2_:=Aside0.mk ((by rw [hg];exact (below_size (by repeat (first | (with_reducible first | exact HB.out | apply below_alloc | apply pw_below_drewN | apply below_drew1) | exact HB.out))):w.heap.size ≤ gb385));have n3_:=Aside0.mk ((by rw [hg];exact (below_size (by repeat (first | (with_reducible first | exact HB.out | apply below_alloc | apply pw_below_drewN | apply below_drew1) | exact HB.out))):w.heap.size ≤ gb385));clear HB;have HB:=n0_;have BK385:=n1_;have GW385:=n2_;have GE385:=n3_;clear n0_ n1_ n2_ n3_;clear hb hbox hg) | ((with_reducible refine gate_callee (f:=58) rfl ?_);refine goesL_ (some 11) rfl rfl Try.func58 (by kernel_rfl) rfl #[.string a0] rfl (by (try simp only [List.map_toArray,List.map_cons,List.map_nil]);first | done | rfl | (simp only [List.length_drop,List.length_take];rfl)) ?_;(with_reducible refine (card_newTotal.calls a0 t386 t387 true _ A2.out).mono ?_);rintro e w6 ⟨rfl,hb⟩;refine ⟨_,rfl,?_⟩;have n0_:=Aside0.mk (blk_below (g:=gb385) (o:=.cells #[.int .i64 0,.int .i64 0,.int .i64 0,.int .i64 0] 65 (0,0)) (by (with_reducible repeat (first | refine blk_drewN ?_ _ | refine blk_drew ?_ | refine blk_alloc ?_ _));exact BK385.out) hb);have n1_:=Aside0.mk (below_step (by repeat (first | (with_reducible first | exact HB.out | apply below_alloc | apply pw_below_drewN | apply below_drew1 | refine below_set ?_ GE385.out) | exact HB.out)) hb);clear BK385;clear HB;have BK385:=n0_;have HB:=n1_;clear n0_ n1_;(try clear hb)) | ((with_reducible refine gate_dst (N:=4) rfl ?_);refine box_event ?hg (N:=4) ?hd (cs:=#[.int .i64 0,.string (⟨#[]⟩:ByteArray)]) (t:=81) ?hr ?_;(case hd=>rfl);(case hg=>rfl);(case hr=>first | (go_simp;done) | (go_simp;rfl));intro gb389 hg w7 hbox hb;have n0_:=Aside0.mk (blk_below (g:=gb385) (o:=.cells #[.int .i64 0,.int .i64 0,.int .i64 0,.int .i64 0] 65 (0,0)) (by (with_reducible repeat (first | refine blk_drewN ?_ _ | refine blk_drew ?_ | refine blk_alloc ?_ _));exact BK385.out) hb);have n1_:=Aside0.mk (below_step (by repeat (first | (with_reducible first | exact HB.out | apply below_alloc | apply pw_below_drewN | apply below_drew1 | refine below_set ?_ GE385.out) | exact HB.out)) hb);have n2_:=Aside0.mk (hbox);have n3_:=Aside0.mk ((by rw [hg];exact (below_size (by repeat (first | (with_reducible first | exact HB.out | apply below_alloc | apply pw_below_drewN | apply below_drew1 | refine below_set ?_ GE385.out) | exact HB.out))):w.heap.size ≤ gb389));have n4_:=Aside0.mk ((by rw [hg];exact (below_size (by repeat (first | (with_reducible first | exact HB.out | apply below_alloc | apply pw_below_drewN | apply below_drew1 | refine below_set ?_ GE385.out) | exact HB.out))):w.heap.size ≤ gb389));have n5_:=Aside0.mk ((by rw [hg];exact Nat.ne_of_lt (blk_lt (g:=gb385) (o:=.cells #[.int .i64 0,.int .i64 0,.int .i64 0,.int .i64 0] 65 (0,0)) (by (with_reducible repeat (first | refine blk_drewN ?_ _ | refine blk_drew ?_ | refine blk_alloc ?_ _));exact BK385.out)):gb385 ≠ gb389));have n6_:=Aside0.mk ((by rw [hg];exact Nat.ne_of_gt (blk_lt (g:=gb385) (o:=.cells #[.int .i64 0,.int .i64 0,.int .i64 0,.int .i64 0] 65 (0,0)) (by (with_reducible repeat (first | refine blk_drewN ?_ _ | refine blk_drew ?_ | refine blk_alloc ?_ _));exact BK385.out)):gb389 ≠ gb385));clear BK385;clear HB;have BK385:=n0_;have HB:=n1_;have BK389:=n2_;have GW389:=n3_;have GE389:=n4_;have NB385_389:=n5_;have NB389_385:=n6_;clear n0_ n1_ n2_ n3_ n4_ n5_ n6_;clear hb hbox hg;have hnb8:=NB389_385.out;have hnc8:=NB385_389.out;have hcz9_0:w7.cell? ⟨gb389,0,none⟩ = some (.int .i64 0):=(blk_cell BK389.out 0).trans rfl;have hcz9_1:w7.cell? ⟨gb389,1,none⟩ = some (.string (⟨#[]⟩:ByteArray)):=(blk_cell BK389.out 1).trans rfl;have hfz9_0:=blk_frozen BK389.out 0;have hfz9_1:=blk_frozen BK389.out 1) | ((with_reducible refine gate_dst (N:=6) rfl ?_);refine box_event ?hg (N:=6) ?hd (cs:=#[.int .i64 0,.int .i64 0,.int .i64 0,.int .i64 0]) (t:=65) ?hr ?_;(case hd=>rfl);(case hg=>rfl);(case hr=>first | (go_simp;done) | (go_simp;rfl));intro gb390 hg w10 hbox hb;have n0_:=Aside0.mk (blk_below (g:=gb385) (o:=.cells #[.int .i64 0,.int .i64 0,.int .i64 0,.int .i64 0] 65 (0,0)) (by (with_reducible repeat (first | refine blk_drewN ?_ _ | refine blk_drew ?_ | refine blk_alloc ?_ _));refine blk_far ?_ NB385_389.out _;(with_reducible repeat (first | refine blk_drewN ?_ _ | refine blk_drew ?_ | refine blk_alloc ?_ _));refine blk_far ?_ NB385_389.out _;(with_reducible repeat (first | refine blk_drewN ?_ _ | refine blk_drew ?_ | refine blk_alloc ?_ _));exact BK385.out) hb);have n1_:=Aside0.mk (blk_below (g:=gb389) (o:=.cells #[.int .i64 t386,.string t387] 81 (0,0)) (by (with_reducible repeat (first | refine blk_drewN ?_ _ | refine blk_drew ?_ | refine blk_alloc ?_ _));refine blk_put (cs:=#[.int .i64 t386,.string (⟨#[]⟩:ByteArray)]) ?_ 1 _ rfl;(with_reducible repeat (first | refine blk_drewN ?_ _ | refine blk_drew ?_ | refine blk_alloc ?_ _));refine blk_put (cs:=#[.int .i64 0,.string (⟨#[]⟩:ByteArray)]) ?_ 0 _ rfl;(with_reducible repeat (first | refine blk_drewN ?_ _ | refine blk_drew ?_ | refine blk_alloc ?_ _));exact BK389.out) hb);have n2_:=Aside0.mk (below_step (by repeat (first | (with_reducible first | exact HB.out | apply below_alloc | apply pw_below_drewN | apply below_drew1 | refine below_set ?_ GE385.out | refine below_set ?_ GE389.out) | exact HB.out)) hb);have n3_:=Aside0.mk (hbox);have n4_:=Aside0.mk ((by rw [hg];exact (below_size (by repeat (first | (with_reducible first | exact HB.out | apply below_alloc | apply pw_below_drewN | apply below_drew1 | refine below_set ?_ GE385.out | refine below_set ?_ GE389.out) | exact HB.out))):w.heap.size ≤ gb390));have n5_:=Aside0.mk ((by rw [hg];exact (below_size (by repeat (first | (with_reducible first | exact HB.out | apply below_alloc | apply pw_below_drewN | apply below_drew1 | refine below_set ?_ GE385.out | refine below_set ?_ GE389.out) | exact HB.out))):w.heap.size ≤ gb390));have n6_:=Aside0.mk ((by rw [hg];exact Nat.ne_of_lt (blk_lt (g:=gb385) (o:=.cells #[.int .i64 0,.int .i64 0,.int .i64 0,.int .i64 0] 65 (0,0)) (by (with_reducible repeat (first | refine blk_drewN ?_ _ | refine blk_drew ?_ | refine blk_alloc ?_ _));refine blk_far ?_ NB385_389.out _;(with_reducible repeat (first | refine blk_drewN ?_ _ | refine blk_drew ?_ | refine blk_alloc ?_ _));refine blk_far ?_ NB385_389.out _;(with_reducible repeat (first | refine blk_drewN ?_ _ | refine blk_drew ?_ | refine blk_alloc ?_ _));exact BK385.out)):gb385 ≠ gb390));have n7_:=Aside0.mk ((by rw [hg];exact Nat.ne_of_gt (blk_lt (g:=gb385) (o:=.cells #[.int .i64 0,.int .i64 0,.int .i64 0,.int .i64 0] 65 (0,0)) (by (with_reducible repeat (first | refine blk_drewN ?_ _ | refine blk_drew ?_ | refine blk_alloc ?_ _));refine blk_far ?_ NB385_389.out _;(with_reducible repeat (first | refine blk_drewN ?_ _ | refine blk_drew ?_ | refine blk_alloc ?_ _));refine blk_far ?_ NB385_389.out _;(with_reducible repeat (first | refine blk_drewN ?_ _ | refine blk_drew ?_ | refine blk_alloc ?_ _));exact BK385.out)):gb390 ≠ gb385));have n8_:=Aside0.mk ((by rw [hg];exact Nat.ne_of_lt (blk_lt (g:=gb389) (o:=.cells #[.int .i64 t386,.string t387] 81 (0,0)) (by (with_reducible repeat (first | refine blk_drewN ?_ _ | refine blk_drew ?_ | refine blk_alloc ?_ _));refine blk_put (cs:=#[.int .i64 t386,.string (⟨#[]⟩:ByteArray)]) ?_ 1 _ rfl;(with_reducible repeat (first | refine blk_drewN ?_ _ | refine blk_drew ?_ | refine blk_alloc ?_ _));refine blk_put (cs:=#[.int .i64 0,.string (⟨#[]⟩:ByteArray)]) ?_ 0 _ rfl;(with_reducible repeat (first | refine blk_drewN ?_ _ | refine blk_drew ?_ | refine blk_alloc ?_ _));exact BK389.out)):gb389 ≠ gb390));have n9_:=Aside0.mk ((by rw [hg];exact Nat.ne_of_gt (blk_lt (g:=gb389) (o:=.cells #[.int .i64 t386,.string t387] 81 (0,0)) (by (with_reducible repeat (first | refine blk_drewN ?_ _ | refine blk_drew ?_ | refine blk_alloc ?_ _));refine blk_put (cs:=#[.int .i64 t386,.string (⟨#[]⟩:ByteArray)]) ?_ 1 _ rfl;(with_reducible repeat (first | refine blk_drewN ?_ _ | refine blk_drew ?_ | refine blk_alloc ?_ _));refine blk_put (cs:=#[.int .i64 0,.string (⟨#[]⟩:ByteArray)]) ?_ 0 _ rfl;(with_reducible repeat (first | refine blk_drewN ?_ _ | refine blk_drew ?_ | refine blk_alloc ?_ _));exact BK389.out)):gb390 ≠ gb389));clear BK385;clear BK389;clear HB;have BK385:=n0_;have BK389:=n1_;have HB:=n2_;have BK390:=n3_;have GW390:=n4_;have GE390:=n5_;have NB385_390:=n6_;have NB390_385:=n7_;have NB389_390:=n8_;have NB390_389:=n9_;clear n0_ n1_ n2_ n3_ n4_ n5_ n6_ n7_ n8_ n9_;clear hb hbox hg;have hnb11:=NB389_390.out;have hnc11:=NB390_389.out;have hcz12_0:w10.cell? ⟨gb389,0,none⟩ = some (.int .i64 t386):=(blk_cell BK389.out 0).trans rfl;have hcz12_1:w10.cell? ⟨gb389,1,none⟩ = some (.string t387):=(blk_cell BK389.out 1).trans rfl;have hfz12_0:=blk_frozen BK389.out 0;have hfz12_1:=blk_frozen BK389.out 1) | ((with_reducible refine gate_callee (f:=83) rfl ?_);refine goesL_ (some 18) rfl rfl Try.func83 (by kernel_rfl) rfl #[.agg #[.int .i64 t386,.string t387]] rfl (by (try simp only [List.map_toArray,List.map_cons,List.map_nil]);first | done | rfl | (simp only [List.length_drop,List.length_take];rfl)) ?_;(with_reducible refine (card_function_sum.calls k t386 t387 t391 _ A4.out).mono ?_);rintro e w13 ⟨rfl,hb⟩;refine ⟨_,rfl,?_⟩;have n0_:=Aside0.mk (blk_below (g:=gb385) (o:=.cells #[.int .i64 0,.int .i64 0,.int .i64 0,.int .i64 0] 65 (0,0)) (by (with_reducible repeat (first | refine blk_drewN ?_ _ | refine blk_drew ?_ | refine blk_alloc ?_ _));exact BK385.out) hb);have n1_:=Aside0.mk (blk_below (g:=gb389) (o:=.cells #[.int .i64 t386,.string t387] 81 (0,0)) (by (with_reducible repeat (first | refine blk_drewN ?_ _ | refine blk_drew ?_ | refine blk_alloc ?_ _));exact BK389.out) hb);have n2_:=Aside0.mk (blk_below (g:=gb390) (o:=.cells #[.int .i64 0,.int .i64 0,.int .i64 0,.int .i64 0] 65 (0,0)) (by (with_reducible repeat (first | refine blk_drewN ?_ _ | refine blk_drew ?_ | refine blk_alloc ?_ _));exact BK390.out) hb);have n3_:=Aside0.mk (below_step (by repeat (first | (with_reducible first | exact HB.out | apply below_alloc | apply pw_below_drewN | apply below_drew1 | refine below_set ?_ GE385.out | refine below_set ?_ GE389.out | refine below_set ?_ GE390.out) | exact HB.out)) hb);clear BK385;clear BK389;clear BK390;clear HB;have BK385:=n0_;have BK389:=n1_;have BK390:=n2_;have HB:=n3_;clear n0_ n1_ n2_ n3_;(try clear hb)))
 go_loopg [21] k (fun kq v21 w'=>∃ (x21_1:Int) (x391000_1:Int) (x391001_1:Int) (x391002_1:Int),v21 = .int .i64 x21_1 ∧ Aside0 (card_Measures.l0 kq t391 (a0.size:Int) x21_1 t386 t387 x391000_1 x391001_1 x391002_1 0 = some (r1,r2,r3,r4,r5)) ∧ Aside0 (kq ≤ k) ∧ Aside0 (w'.heap[gb385]? = some (.cells #[.int .i64 0,.int .i64 0,.int .i64 0,.int .i64 0] 65 (0,0))) ∧ Aside0 (w'.heap[gb389]? = some (.cells #[.int .i64 t386,.string t387] 81 (0,0))) ∧ Aside0 (w'.heap[gb390]? = some (.cells #[.int .i64 x391000_1,.int .i64 x391001_1,.int .i64 x391002_1,.int .i64 0] 65 (0,0))) ∧ Aside0 (Below w.heap.size w w'))
 case atStart=>exact ⟨(0),(0),(0),(0),(by first | rfl | (simp;done) | (simp [*];done)),H',⟨Nat.le_refl _⟩,⟨by (with_reducible repeat (first | refine blk_drewN ?_ _ | refine blk_drew ?_ | refine blk_alloc ?_ _));exact BK385.out⟩,⟨by (with_reducible repeat (first | refine blk_drewN ?_ _ | refine blk_drew ?_ | refine blk_alloc ?_ _));exact BK389.out⟩,⟨by (with_reducible repeat (first | refine blk_drewN ?_ _ | refine blk_drew ?_ | refine blk_alloc ?_ _));exact BK390.out⟩,⟨by repeat (first | (with_reducible first | exact HB.out | apply below_alloc | apply pw_below_drewN | apply below_drew1 | refine below_set ?_ GE385.out | refine below_set ?_ GE389.out | refine below_set ?_ GE390.out) | exact HB.out)⟩⟩
 case round =>
  clear H'
  try clear c1
  try clear p2
  try clear c3
  try clear c4
  try clear c5
  try clear c8
  try clear c11
  try clear hcz12_0
  try clear hcz12_1
  try clear hcz9_0
  try clear hcz9_1
  try clear hfz12_0
  try clear hfz12_1
  try clear hfz9_0
  try clear hfz9_1
  obtain ⟨x21_1,x391000_1,x391001_1,x391002_1,rfl,HA,HK1,BK385,BK389,BK390,HB⟩:=hrel
  cases gk with
  | zero=>exact absurd HA.out (by simp [card_Measures.l0])
  | succ k1 =>
   have H:=HA.out
   clear HA
   simp only [card_Measures.l0] at H
   by_cases c14:x21_1 < (a0.size:Int)
   case neg =>
    rw [if_neg c14] at H
    have c14b0:decide (x21_1 < (a0.size:Int)) = false:=decide_eq_false c14
    clear c14
    replace H:=Option.bind_eq_some_iff.mp H
    obtain ⟨t392,A460,H⟩:=H
    replace H:(some (x391000_1,x391001_1,x391002_1,(t392.length:Int),0)) = some (r1,r2,r3,r4,r5):=H
    have A46:=Aside0.mk A460
    clear A460
    simp only [Option.some.injEq,Prod.mk.injEq] at H
    obtain ⟨rfl,rfl,rfl,rfl,rfl⟩:=H
    have hnb47:=NB389_385.out
    have hnc47:=NB385_389.out
    have hnb48:=NB389_390.out
    have hnc48:=NB390_389.out
    have hcz49_0:wr.cell? ⟨gb389,0,none⟩ = some (.int .i64 t386):=(blk_cell BK389.out 0).trans rfl
    have hcz49_1:wr.cell? ⟨gb389,1,none⟩ = some (.string t387):=(blk_cell BK389.out 1).trans rfl
    have hfz49_0:=blk_frozen BK389.out 0
    have hfz49_1:=blk_frozen BK389.out 1
    go_wp2_with (first | ((with_reducible refine gate_callee (f:=87) rfl ?_);refine goesL_ (some 51) rfl rfl Try.func87 (by kernel_rfl) rfl #[.agg #[.int .i64 t386,.string t387]] rfl (by (try simp only [List.map_toArray,List.map_cons,List.map_nil]);first | done | rfl | (simp only [List.length_drop,List.length_take];rfl)) ?_;(with_reducible refine (card_function_ones.calls k1 t386 t387 t392 _ A46.out).mono ?_);rintro e w50 ⟨v393,rfl,ho0,hb⟩;refine ⟨_,rfl,?_⟩;have n0_:=Aside0.mk (Kd.R_lower ho0 (below_size (by repeat (first | (with_reducible first | exact HB.out | apply below_alloc | apply pw_below_drewN | apply below_drew1 | refine below_set ?_ GE385.out | refine below_set ?_ GE389.out | refine below_set ?_ GE390.out) | exact HB.out))));have n1_:=Aside0.mk (blk_below (g:=gb385) (o:=.cells #[.int .i64 0,.int .i64 0,.int .i64 0,.int .i64 0] 65 (0,0)) (by (with_reducible repeat (first | refine blk_drewN ?_ _ | refine blk_drew ?_ | refine blk_alloc ?_ _));exact BK385.out) hb);have n2_:=Aside0.mk (blk_below (g:=gb389) (o:=.cells #[.int .i64 t386,.string t387] 81 (0,0)) (by (with_reducible repeat (first | refine blk_drewN ?_ _ | refine blk_drew ?_ | refine blk_alloc ?_ _));exact BK389.out) hb);have n3_:=Aside0.mk (blk_below (g:=gb390) (o:=.cells #[.int .i64 x391000_1,.int .i64 x391001_1,.int .i64 x391002_1,.int .i64 0] 65 (0,0)) (by (with_reducible repeat (first | refine blk_drewN ?_ _ | refine blk_drew ?_ | refine blk_alloc ?_ _));exact BK390.out) hb);have n4_:=Aside0.mk (below_step (by repeat (first | (with_reducible first | exact HB.out | apply below_alloc | apply pw_below_drewN | apply below_drew1 | refine below_set ?_ GE385.out | refine below_set ?_ GE389.out | refine below_set ?_ GE390.out) | exact HB.out)) hb);clear BK385;clear BK389;clear BK390;clear HB;have HO394:=n0_;have BK385:=n1_;have BK389:=n2_;have BK390:=n3_;have HB:=n4_;clear n0_ n1_ n2_ n3_ n4_;(try clear hb);(try clear ho0);obtain ⟨Ao51,co51,eo51⟩:=Kd.R_slice HO394.out;subst eo51;have hnb52:=NB390_385.out;have hnc52:=NB385_390.out;have hcz53_0:w50.cell? ⟨gb390,0,none⟩ = some (.int .i64 x391000_1):=(blk_cell BK390.out 0).trans rfl;have hcz53_1:w50.cell? ⟨gb390,1,none⟩ = some (.int .i64 x391001_1):=(blk_cell BK390.out 1).trans rfl;have hcz53_2:w50.cell? ⟨gb390,2,none⟩ = some (.int .i64 x391002_1):=(blk_cell BK390.out 2).trans rfl;have hcz53_3:w50.cell? ⟨gb390,3,none⟩ = some (.int .i64 0):=(blk_cell BK390.out 3).trans rfl;have hfz53_0:=blk_frozen BK390.out 0;have hfz53_1:=blk_frozen BK390.out 1;have hfz53_2:=blk_frozen BK390.out 2;have hfz53_3:=blk_frozen BK390.out 3;have hcz54_0:w50.cell? ⟨gb385,0,none⟩ = some (.int .i64 0):=(blk_cell BK385.out 0).trans rfl;have hcz54_1:w50.cell? ⟨gb385,1,none⟩ = some (.int .i64 0):=(blk_cell BK385.out 1).trans rfl;have hcz54_2:w50.cell? ⟨gb385,2,none⟩ = some (.int .i64 0):=(blk_cell BK385.out 2).trans rfl;have hcz54_3:w50.cell? ⟨gb385,3,none⟩ = some (.int .i64 0):=(blk_cell BK385.out 3).trans rfl;have hfz54_0:=blk_frozen BK385.out 0;have hfz54_1:=blk_frozen BK385.out 1;have hfz54_2:=blk_frozen BK385.out 2;have hfz54_3:=blk_frozen BK385.out 3))
    refine bodyPost_ret (results_ct rfl _ _ gb385 65 #[.int .i64 x391000_1,.int .i64 x391001_1,.int .i64 x391002_1,.int .i64 (t392.length:Int)] (0,0) _ rfl (by (with_reducible repeat (first | refine blk_drewN ?_ _ | refine blk_drew ?_ | refine blk_alloc ?_ _));refine blk_put (cs:=#[.int .i64 x391000_1,.int .i64 x391001_1,.int .i64 x391002_1,.int .i64 0]) ?_ 3 _ rfl;(with_reducible repeat (first | refine blk_drewN ?_ _ | refine blk_drew ?_ | refine blk_alloc ?_ _));refine blk_put (cs:=#[.int .i64 x391000_1,.int .i64 x391001_1,.int .i64 0,.int .i64 0]) ?_ 2 _ rfl;(with_reducible repeat (first | refine blk_drewN ?_ _ | refine blk_drew ?_ | refine blk_alloc ?_ _));refine blk_put (cs:=#[.int .i64 x391000_1,.int .i64 0,.int .i64 0,.int .i64 0]) ?_ 1 _ rfl;(with_reducible repeat (first | refine blk_drewN ?_ _ | refine blk_drew ?_ | refine blk_alloc ?_ _));refine blk_put (cs:=#[.int .i64 0,.int .i64 0,.int .i64 0,.int .i64 0]) ?_ 0 _ rfl;(with_reducible repeat (first | refine blk_drewN ?_ _ | refine blk_drew ?_ | refine blk_alloc ?_ _));refine blk_far ?_ NB385_390.out _;(with_reducible repeat (first | refine blk_drewN ?_ _ | refine blk_drew ?_ | refine blk_alloc ?_ _));exact BK385.out) Try.underlying65 rfl (by kernel_rfl)) rfl ?_
    exact ⟨by first | rfl | (simp [errW_none,errW_some] <;> rfl) | (simp [*,errW_none,errW_some] <;> rfl),by repeat (first | (with_reducible first | exact HB.out | apply below_alloc | apply pw_below_drewN | apply below_drew1 | refine below_set ?_ GE385.out | refine below_set ?_ GE389.out | refine below_set ?_ GE390.out) | exact HB.out)⟩
   rw [if_pos c14] at H
   have c14b0:decide (x21_1 < (a0.size:Int)) = true:=decide_eq_true c14
   clear c14
   by_cases c15:0 ≤ x21_1
   case neg =>
    rw [if_neg c15] at H
    exact absurd H (by simp)
   rw [if_pos c15] at H
   have c15b0:decide (0 ≤ x21_1) = true:=decide_eq_true c15
   clear c15
   by_cases c16:x21_1 < (t391.size:Int)
   case neg =>
    rw [if_neg c16] at H
    exact absurd H (by simp)
   rw [if_pos c16] at H
   have c16b0:decide (x21_1 < (t391.size:Int)) = true:=decide_eq_true c16
   clear c16
   by_cases c18:(bt t391 x21_1) = 49
   case neg =>
    rw [if_neg c18] at H
    have c18b0:((bt t391 x21_1) == 49) = false:=beq_eq_false_iff_ne.mpr c18
    have c18b1:((bt t391 x21_1) != 49) = true:=bne_iff_ne.mpr c18
    replace H:=Option.bind_eq_some_iff.mp H
    obtain ⟨t398,A350,H⟩:=H
    replace H:((card_function_certificate.f k1 t386 t387 x21_1).bind fun t399=>(card_Measures.l0 k1 t391 (a0.size:Int) (wrap64 (x21_1 + 1)) t386 t387 x391000_1 (mx x391001_1 t398) (mx x391002_1 t399) 0)) = some (r1,r2,r3,r4,r5):=H
    have A35:=Aside0.mk A350
    clear A350
    obtain ⟨ji36,hji36⟩:∃ j_:Int,(mx x391001_1 t398) = j_:=⟨_,rfl⟩
    replace H:((card_function_certificate.f k1 t386 t387 x21_1).bind fun t399=>(card_Measures.l0 k1 t391 (a0.size:Int) (wrap64 (x21_1 + 1)) t386 t387 x391000_1 ji36 (mx x391002_1 t399) 0)) = some (r1,r2,r3,r4,r5):=by first | (rw [hji36] at H;exact H) | (simp only [hji36] at H ⊢;exact H)
    (try rw [hji36] at A35)
    have hji36_:(if x391001_1 < t398 then t398 else x391001_1) = ji36:=hji36
    replace H:=Option.bind_eq_some_iff.mp H
    obtain ⟨t399,A370,H⟩:=H
    replace H:(card_Measures.l0 k1 t391 (a0.size:Int) (wrap64 (x21_1 + 1)) t386 t387 x391000_1 ji36 (mx x391002_1 t399) 0) = some (r1,r2,r3,r4,r5):=H
    have A37:=Aside0.mk A370
    clear A370
    obtain ⟨ji38,hji38⟩:∃ j_:Int,(mx x391002_1 t399) = j_:=⟨_,rfl⟩
    replace H:(card_Measures.l0 k1 t391 (a0.size:Int) (wrap64 (x21_1 + 1)) t386 t387 x391000_1 ji36 ji38 0) = some (r1,r2,r3,r4,r5):=by first | (rw [hji38] at H;exact H) | (simp only [hji38] at H ⊢;exact H)
    (try rw [hji38] at A35)
    (try rw [hji38] at A37)
    have hji38_:(if x391002_1 < t399 then t399 else x391002_1) = ji38:=hji38
    have H':=Aside0.mk H
    clear H
    have p17:0 ≤ (x21_1:Int):=of_decide_eq_true (by first | (with_reducible assumption) | assumption)
    have q17:x21_1 < (t391.size:Int):=of_decide_eq_true (by first | (with_reducible assumption) | assumption)
    have hx17:=bt_at t391 x21_1
    replace p17:=eq_true p17
    replace q17:=eq_true q17
    try go_wp2
    (try simp only [setCell_drewN])
    have n0_:=Aside0.mk (blk_drew BK385.out)
    have n1_:=Aside0.mk (blk_drew BK389.out)
    have n2_:=Aside0.mk (blk_drew BK390.out)
    have n3_:=Aside0.mk (below_drew1 HB.out)
    clear BK385
    clear BK389
    clear BK390
    clear HB
    have BK385:=n0_
    have BK389:=n1_
    have BK390:=n2_
    have HB:=n3_
    clear n0_ n1_ n2_ n3_
    refine start_ (n:=8) (S:=fun w'=>w'.cell? ⟨gb390,0,none⟩ = some (.int .i64 x391000_1) ∧ w'.cell? ⟨gb390,1,none⟩ = some (.int .i64 x391001_1) ∧ w'.cell? ⟨gb390,2,none⟩ = some (.int .i64 x391002_1) ∧ w'.cell? ⟨gb390,3,none⟩ = some (.int .i64 0) ∧ w'.cell? ⟨gb389,0,none⟩ = some (.int .i64 t386) ∧ w'.cell? ⟨gb389,1,none⟩ = some (.string t387)) (ds:=[7]) #[false,false,false,false,false,false,false,false] (by kernel_rfl) rfl rfl ⟨(blk_cell BK390.out 0).trans rfl,(blk_cell BK390.out 1).trans rfl,(blk_cell BK390.out 2).trans rfl,(blk_cell BK390.out 3).trans rfl,(blk_cell BK389.out 0).trans rfl,(blk_cell BK389.out 1).trans rfl⟩ (fun hHeld=>?_);refine with_tabW card_Measures.tab11 card_Measures.bits11 (fun HT_ HW_=>?_)
    generalize wr.drew = w39 at BK385 BK389 BK390 HB hHeld ⊢
    refine pure_ (i:=0) (N:=some 35) (v:=?_) (a':=?_) #[true,false,false,false,false,false,false,false] rfl rfl (any_of HT_.out (by kernel_rfl)) (fun _ _ _ h=>h) (Or.inl ⟨by rfl,?_⟩) ?_ ?_
    rotate_left
    ·intro w'
     go_simp
     with_reducible rfl
    rotate_left
    ·simp only [Act.put,List.setIfInBounds_toArray,List.set_cons_zero,List.set_cons_succ,i64_w,i32_w]
     rfl
    refine pure_ (i:=3) (N:=some 38) (v:=?_) (a':=?_) #[true,false,false,true,false,false,false,false] rfl rfl (any_of HT_.out (by kernel_rfl)) (fun _ _ _ h=>h) (Or.inl ⟨by rfl,?_⟩) ?_ ?_
    rotate_left
    ·intro w'
     go_simp
     with_reducible rfl
    rotate_left
    ·simp only [Act.put,List.setIfInBounds_toArray,List.set_cons_zero,List.set_cons_succ,i64_w,i32_w]
     rfl
    refine take_ (i:=1) (N:=some 36) (v:=?_) (a':=?_) #[true,true,false,true,false,false,false,false] rfl rfl (take_ofW HT_.out HW_.out (by kernel_rfl)) (fun _ _ _ h=>h) (Or.inl ⟨by rfl,?_⟩) hHeld ?_ ?_
    rotate_left
    ·rintro w' ⟨s0,s1,s2,s3,s4,s5⟩
     go_simp
     with_reducible rfl
    rotate_left
    ·simp only [Act.put,List.setIfInBounds_toArray,List.set_cons_zero,List.set_cons_succ,i64_w,i32_w]
     rfl
    refine take_ (i:=2) (N:=some 37) (v:=?_) (a':=?_) #[true,true,true,true,false,false,false,false] rfl rfl (take_ofW HT_.out HW_.out (by kernel_rfl)) (fun _ _ _ h=>h) (Or.inl ⟨by rfl,?_⟩) hHeld ?_ ?_
    rotate_left
    ·rintro w' ⟨s0,s1,s2,s3,s4,s5⟩
     go_simp
     with_reducible rfl
    rotate_left
    ·simp only [Act.put,List.setIfInBounds_toArray,List.set_cons_zero,List.set_cons_succ,i64_w,i32_w]
     rfl
    refine one_ (i:=4) (N:=some 39) #[true,true,true,true,true,false,false,false] rfl rfl (one_of HT_.out (by kernel_rfl)) (by decide) (fun K hK=>?_)
    refine goes_ Try.func85 (by kernel_rfl) rfl #[.agg #[.int .i64 t386,.string t387],.int .i64 x21_1] (by rfl) rfl rfl (by (try simp only [List.map_toArray,List.map_cons,List.map_nil]);first | done | rfl | (simp only [List.length_drop,List.length_take];rfl)) ?_
    with_reducible refine (card_function_sensitivity.calls k1 t386 t387 x21_1 t398 _ A35.out).mono ?_
    rintro e w40 ⟨rfl,hb⟩
    refine ⟨_,rfl,?_⟩
    have n0_:=Aside0.mk (blk_below (g:=gb385) (o:=.cells #[.int .i64 0,.int .i64 0,.int .i64 0,.int .i64 0] 65 (0,0)) (by (with_reducible repeat (first | refine blk_drewN ?_ _ | refine blk_drew ?_ | refine blk_alloc ?_ _));exact BK385.out) hb)
    have n1_:=Aside0.mk (blk_below (g:=gb389) (o:=.cells #[.int .i64 t386,.string t387] 81 (0,0)) (by (with_reducible repeat (first | refine blk_drewN ?_ _ | refine blk_drew ?_ | refine blk_alloc ?_ _));exact BK389.out) hb)
    have n2_:=Aside0.mk (blk_below (g:=gb390) (o:=.cells #[.int .i64 x391000_1,.int .i64 x391001_1,.int .i64 x391002_1,.int .i64 0] 65 (0,0)) (by (with_reducible repeat (first | refine blk_drewN ?_ _ | refine blk_drew ?_ | refine blk_alloc ?_ _));exact BK390.out) hb)
    have n3_:=Aside0.mk (below_step (by repeat (first | (with_reducible first | exact HB.out | apply below_alloc | apply pw_below_drewN | apply below_drew1 | refine below_set ?_ GE385.out | refine below_set ?_ GE389.out | refine below_set ?_ GE390.out) | exact HB.out)) hb)
    clear BK385
    clear BK389
    clear BK390
    clear HB
    have BK385:=n0_
    have BK389:=n1_
    have BK390:=n2_
    have HB:=n3_
    clear n0_ n1_ n2_ n3_
    (try clear hb)
    refine hK.out _ _ ⟨(blk_cell BK390.out 0).trans rfl,(blk_cell BK390.out 1).trans rfl,(blk_cell BK390.out 2).trans rfl,(blk_cell BK390.out 3).trans rfl,(blk_cell BK389.out 0).trans rfl,(blk_cell BK389.out 1).trans rfl⟩ (fun hHeld=>?_)
    clear hK K
    refine norm_ (a':=?_) ?_ ?_
    rotate_left
    ·show Act.put _ (some 39) _ = _
     simp only [Act.put,List.setIfInBounds_toArray,List.set_cons_zero,List.set_cons_succ,i64_w,i32_w]
     rfl
    refine pure_ (i:=5) (N:=some 40) (v:=?_) (a':=?_) #[true,true,true,true,true,true,false,false] rfl rfl (any_of HT_.out (by kernel_rfl)) (fun _ _ _ h=>h) (Or.inl ⟨by rfl,?_⟩) ?_ ?_
    rotate_left
    ·intro w'
     go_simp
     with_reducible rfl
    rotate_left
    ·simp only [Act.put,List.setIfInBounds_toArray,List.set_cons_zero,List.set_cons_succ,i64_w,i32_w]
     rfl
    refine pure_ (i:=6) (N:=some 41) (v:=?_) (a':=?_) #[true,true,true,true,true,true,true,false] rfl rfl (any_of HT_.out (by kernel_rfl)) (fun _ _ _ h=>h) (Or.inl ⟨by rfl,?_⟩) ?_ ?_
    rotate_left
    ·intro w'
     go_simp
     with_reducible rfl
    rotate_left
    ·simp only [Act.put,List.setIfInBounds_toArray,List.set_cons_zero,List.set_cons_succ,i64_w,i32_w]
     rfl
    refine last_ (i:=7) (N:=none) #[true,true,true,true,true,true,true,true] rfl rfl (one_of HT_.out (by kernel_rfl)) (by decide) (fun K hK=>?_)
    have hs41:w40.cell? ⟨gb390,1,none⟩ = some (.int .i64 x391001_1):=(blk_cell BK390.out 1).trans rfl
    have hfs41:=blk_frozen BK390.out 1
    have hns41_0:=NB385_390.out
    have hns41_1:=NB389_390.out
    have hms41_0:=NB390_385.out
    have hms41_1:=NB390_389.out
    refine skip_ (w1:=?_) (by rfl) rfl ?_ ?_
    rotate_left
    ·go_simp
     rfl
    refine hK.out _ _ ?_
    clear hK K
    refine done_ (done_of HT_.out (by kernel_rfl)) ?_
    try go_wp2
    (try simp only [setCell_drewN])
    have n0_:Aside0 ((w40.setCell ⟨gb390,1,none⟩ (.int .i64 ji36)).heap[gb385]? = some (.cells #[.int .i64 0,.int .i64 0,.int .i64 0,.int .i64 0] 65 (0,0))):=⟨by (with_reducible repeat (first | refine blk_drewN ?_ _ | refine blk_drew ?_ | refine blk_alloc ?_ _));refine blk_far ?_ NB385_390.out _;(with_reducible repeat (first | refine blk_drewN ?_ _ | refine blk_drew ?_ | refine blk_alloc ?_ _));exact BK385.out⟩
    have n1_:Aside0 ((w40.setCell ⟨gb390,1,none⟩ (.int .i64 ji36)).heap[gb389]? = some (.cells #[.int .i64 t386,.string t387] 81 (0,0))):=⟨by (with_reducible repeat (first | refine blk_drewN ?_ _ | refine blk_drew ?_ | refine blk_alloc ?_ _));refine blk_far ?_ NB389_390.out _;(with_reducible repeat (first | refine blk_drewN ?_ _ | refine blk_drew ?_ | refine blk_alloc ?_ _));exact BK389.out⟩
    have n2_:Aside0 ((w40.setCell ⟨gb390,1,none⟩ (.int .i64 ji36)).heap[gb390]? = some (.cells #[.int .i64 x391000_1,.int .i64 ji36,.int .i64 x391002_1,.int .i64 0] 65 (0,0))):=⟨by (with_reducible repeat (first | refine blk_drewN ?_ _ | refine blk_drew ?_ | refine blk_alloc ?_ _));refine blk_put (cs:=#[.int .i64 x391000_1,.int .i64 x391001_1,.int .i64 x391002_1,.int .i64 0]) ?_ 1 _ rfl;(with_reducible repeat (first | refine blk_drewN ?_ _ | refine blk_drew ?_ | refine blk_alloc ?_ _));exact BK390.out⟩
    have n3_:Aside0 (Below w.heap.size w (w40.setCell ⟨gb390,1,none⟩ (.int .i64 ji36))):=⟨by repeat (first | (with_reducible first | exact HB.out | apply below_alloc | apply pw_below_drewN | apply below_drew1 | refine below_set ?_ GE385.out | refine below_set ?_ GE389.out | refine below_set ?_ GE390.out) | exact HB.out)⟩
    (try clear BK385)
    (try clear BK389)
    (try clear BK390)
    (try clear HB)
    generalize (w40.setCell ⟨gb390,1,none⟩ (.int .i64 ji36)) = w42 at n0_ n1_ n2_ n3_ ⊢
    have BK385:=n0_
    have BK389:=n1_
    have BK390:=n2_
    have HB:=n3_
    clear n0_ n1_ n2_ n3_
    have n0_:=Aside0.mk (blk_drew BK385.out)
    have n1_:=Aside0.mk (blk_drew BK389.out)
    have n2_:=Aside0.mk (blk_drew BK390.out)
    have n3_:=Aside0.mk (below_drew1 HB.out)
    clear BK385
    clear BK389
    clear BK390
    clear HB
    have BK385:=n0_
    have BK389:=n1_
    have BK390:=n2_
    have HB:=n3_
    clear n0_ n1_ n2_ n3_
    refine start_ (n:=8) (S:=fun w'=>w'.cell? ⟨gb390,0,none⟩ = some (.int .i64 x391000_1) ∧ w'.cell? ⟨gb390,1,none⟩ = some (.int .i64 ji36) ∧ w'.cell? ⟨gb390,2,none⟩ = some (.int .i64 x391002_1) ∧ w'.cell? ⟨gb390,3,none⟩ = some (.int .i64 0) ∧ w'.cell? ⟨gb389,0,none⟩ = some (.int .i64 t386) ∧ w'.cell? ⟨gb389,1,none⟩ = some (.string t387)) (ds:=[7]) #[false,false,false,false,false,false,false,false] (by kernel_rfl) rfl rfl ⟨(blk_cell BK390.out 0).trans rfl,(blk_cell BK390.out 1).trans rfl,(blk_cell BK390.out 2).trans rfl,(blk_cell BK390.out 3).trans rfl,(blk_cell BK389.out 0).trans rfl,(blk_cell BK389.out 1).trans rfl⟩ (fun hHeld=>?_);refine with_tabW card_Measures.tab12 card_Measures.bits12 (fun HT_ HW_=>?_)
    generalize w42.drew = w43 at BK385 BK389 BK390 HB hHeld ⊢
    refine pure_ (i:=0) (N:=some 42) (v:=?_) (a':=?_) #[true,false,false,false,false,false,false,false] rfl rfl (any_of HT_.out (by kernel_rfl)) (fun _ _ _ h=>h) (Or.inl ⟨by rfl,?_⟩) ?_ ?_
    rotate_left
    ·intro w'
     go_simp
     with_reducible rfl
    rotate_left
    ·simp only [Act.put,List.setIfInBounds_toArray,List.set_cons_zero,List.set_cons_succ,i64_w,i32_w]
     rfl
    refine pure_ (i:=3) (N:=some 45) (v:=?_) (a':=?_) #[true,false,false,true,false,false,false,false] rfl rfl (any_of HT_.out (by kernel_rfl)) (fun _ _ _ h=>h) (Or.inl ⟨by rfl,?_⟩) ?_ ?_
    rotate_left
    ·intro w'
     go_simp
     with_reducible rfl
    rotate_left
    ·simp only [Act.put,List.setIfInBounds_toArray,List.set_cons_zero,List.set_cons_succ,i64_w,i32_w]
     rfl
    refine take_ (i:=1) (N:=some 43) (v:=?_) (a':=?_) #[true,true,false,true,false,false,false,false] rfl rfl (take_ofW HT_.out HW_.out (by kernel_rfl)) (fun _ _ _ h=>h) (Or.inl ⟨by rfl,?_⟩) hHeld ?_ ?_
    rotate_left
    ·rintro w' ⟨s0,s1,s2,s3,s4,s5⟩
     go_simp
     with_reducible rfl
    rotate_left
    ·simp only [Act.put,List.setIfInBounds_toArray,List.set_cons_zero,List.set_cons_succ,i64_w,i32_w]
     rfl
    refine take_ (i:=2) (N:=some 44) (v:=?_) (a':=?_) #[true,true,true,true,false,false,false,false] rfl rfl (take_ofW HT_.out HW_.out (by kernel_rfl)) (fun _ _ _ h=>h) (Or.inl ⟨by rfl,?_⟩) hHeld ?_ ?_
    rotate_left
    ·rintro w' ⟨s0,s1,s2,s3,s4,s5⟩
     go_simp
     with_reducible rfl
    rotate_left
    ·simp only [Act.put,List.setIfInBounds_toArray,List.set_cons_zero,List.set_cons_succ,i64_w,i32_w]
     rfl
    refine one_ (i:=4) (N:=some 46) #[true,true,true,true,true,false,false,false] rfl rfl (one_of HT_.out (by kernel_rfl)) (by decide) (fun K hK=>?_)
    refine goes_ Try.func86 (by kernel_rfl) rfl #[.agg #[.int .i64 t386,.string t387],.int .i64 x21_1] (by rfl) rfl rfl (by (try simp only [List.map_toArray,List.map_cons,List.map_nil]);first | done | rfl | (simp only [List.length_drop,List.length_take];rfl)) ?_
    with_reducible refine (card_function_certificate.calls k1 t386 t387 x21_1 t399 _ A37.out).mono ?_
    rintro e w44 ⟨rfl,hb⟩
    refine ⟨_,rfl,?_⟩
    have n0_:=Aside0.mk (blk_below (g:=gb385) (o:=.cells #[.int .i64 0,.int .i64 0,.int .i64 0,.int .i64 0] 65 (0,0)) (by (with_reducible repeat (first | refine blk_drewN ?_ _ | refine blk_drew ?_ | refine blk_alloc ?_ _));exact BK385.out) hb)
    have n1_:=Aside0.mk (blk_below (g:=gb389) (o:=.cells #[.int .i64 t386,.string t387] 81 (0,0)) (by (with_reducible repeat (first | refine blk_drewN ?_ _ | refine blk_drew ?_ | refine blk_alloc ?_ _));exact BK389.out) hb)
    have n2_:=Aside0.mk (blk_below (g:=gb390) (o:=.cells #[.int .i64 x391000_1,.int .i64 ji36,.int .i64 x391002_1,.int .i64 0] 65 (0,0)) (by (with_reducible repeat (first | refine blk_drewN ?_ _ | refine blk_drew ?_ | refine blk_alloc ?_ _));exact BK390.out) hb)
    have n3_:=Aside0.mk (below_step (by repeat (first | (with_reducible first | exact HB.out | apply below_alloc | apply pw_below_drewN | apply below_drew1 | refine below_set ?_ GE385.out | refine below_set ?_ GE389.out | refine below_set ?_ GE390.out) | exact HB.out)) hb)
    clear BK385
    clear BK389
    clear BK390
    clear HB
    have BK385:=n0_
    have BK389:=n1_
    have BK390:=n2_
    have HB:=n3_
    clear n0_ n1_ n2_ n3_
    (try clear hb)
    refine hK.out _ _ ⟨(blk_cell BK390.out 0).trans rfl,(blk_cell BK390.out 1).trans rfl,(blk_cell BK390.out 2).trans rfl,(blk_cell BK390.out 3).trans rfl,(blk_cell BK389.out 0).trans rfl,(blk_cell BK389.out 1).trans rfl⟩ (fun hHeld=>?_)
    clear hK K
    refine norm_ (a':=?_) ?_ ?_
    rotate_left
    ·show Act.put _ (some 46) _ = _
     simp only [Act.put,List.setIfInBounds_toArray,List.set_cons_zero,List.set_cons_succ,i64_w,i32_w]
     rfl
    refine pure_ (i:=5) (N:=some 47) (v:=?_) (a':=?_) #[true,true,true,true,true,true,false,false] rfl rfl (any_of HT_.out (by kernel_rfl)) (fun _ _ _ h=>h) (Or.inl ⟨by rfl,?_⟩) ?_ ?_
    rotate_left
    ·intro w'
     go_simp
     with_reducible rfl
    rotate_left
    ·simp only [Act.put,List.setIfInBounds_toArray,List.set_cons_zero,List.set_cons_succ,i64_w,i32_w]
     rfl
    refine pure_ (i:=6) (N:=some 48) (v:=?_) (a':=?_) #[true,true,true,true,true,true,true,false] rfl rfl (any_of HT_.out (by kernel_rfl)) (fun _ _ _ h=>h) (Or.inl ⟨by rfl,?_⟩) ?_ ?_
    rotate_left
    ·intro w'
     go_simp
     with_reducible rfl
    rotate_left
    ·simp only [Act.put,List.setIfInBounds_toArray,List.set_cons_zero,List.set_cons_succ,i64_w,i32_w]
     rfl
    refine last_ (i:=7) (N:=none) #[true,true,true,true,true,true,true,true] rfl rfl (one_of HT_.out (by kernel_rfl)) (by decide) (fun K hK=>?_)
    have hs45:w44.cell? ⟨gb390,2,none⟩ = some (.int .i64 x391002_1):=(blk_cell BK390.out 2).trans rfl
    have hfs45:=blk_frozen BK390.out 2
    have hns45_0:=NB385_390.out
    have hns45_1:=NB389_390.out
    have hms45_0:=NB390_385.out
    have hms45_1:=NB390_389.out
    refine skip_ (w1:=?_) (by rfl) rfl ?_ ?_
    rotate_left
    ·go_simp
     rfl
    refine hK.out _ _ ?_
    clear hK K
    refine done_ (done_of HT_.out (by kernel_rfl)) ?_
    try go_wp2
    (try simp only [setCell_drewN])
    go_roundg k1
    case measure=>have:=HK1.out;omega
    case rel=>exact ⟨(wrap64 (x21_1 + 1)),(x391000_1),(ji36),(ji38),(by first | rfl | (simp;done) | (simp [*];done)),H',⟨by have:=HK1.out;omega⟩,⟨by (with_reducible repeat (first | refine blk_drewN ?_ _ | refine blk_drew ?_ | refine blk_alloc ?_ _));refine blk_far ?_ NB385_390.out _;(with_reducible repeat (first | refine blk_drewN ?_ _ | refine blk_drew ?_ | refine blk_alloc ?_ _));exact BK385.out⟩,⟨by (with_reducible repeat (first | refine blk_drewN ?_ _ | refine blk_drew ?_ | refine blk_alloc ?_ _));refine blk_far ?_ NB389_390.out _;(with_reducible repeat (first | refine blk_drewN ?_ _ | refine blk_drew ?_ | refine blk_alloc ?_ _));exact BK389.out⟩,⟨by (with_reducible repeat (first | refine blk_drewN ?_ _ | refine blk_drew ?_ | refine blk_alloc ?_ _));refine blk_put (cs:=#[.int .i64 x391000_1,.int .i64 ji36,.int .i64 x391002_1,.int .i64 0]) ?_ 2 _ rfl;(with_reducible repeat (first | refine blk_drewN ?_ _ | refine blk_drew ?_ | refine blk_alloc ?_ _));exact BK390.out⟩,⟨by repeat (first | (with_reducible first | exact HB.out | apply below_alloc | apply pw_below_drewN | apply below_drew1 | refine below_set ?_ GE385.out | refine below_set ?_ GE389.out | refine below_set ?_ GE390.out) | exact HB.out)⟩⟩
   rw [if_pos c18] at H
   have c18b0:((bt t391 x21_1) == 49) = true:=beq_iff_eq.mpr c18
   have c18b1:((bt t391 x21_1) != 49) = false:=bne_eq_false_iff_eq.mpr c18
   clear c18
   replace H:=Option.bind_eq_some_iff.mp H
   obtain ⟨t395,A190,H⟩:=H
   replace H:((card_function_sensitivity.f k1 t386 t387 x21_1).bind fun t396=>((card_function_certificate.f k1 t386 t387 x21_1).bind fun t397=>(card_Measures.l0 k1 t391 (a0.size:Int) (wrap64 (x21_1 + 1)) t386 t387 (mx x391000_1 t395) (mx x391001_1 t396) (mx x391002_1 t397) 0))) = some (r1,r2,r3,r4,r5):=H
   have A19:=Aside0.mk A190
   clear A190
   obtain ⟨ji20,hji20⟩:∃ j_:Int,(mx x391000_1 t395) = j_:=⟨_,rfl⟩
   replace H:((card_function_sensitivity.f k1 t386 t387 x21_1).bind fun t396=>((card_function_certificate.f k1 t386 t387 x21_1).bind fun t397=>(card_Measures.l0 k1 t391 (a0.size:Int) (wrap64 (x21_1 + 1)) t386 t387 ji20 (mx x391001_1 t396) (mx x391002_1 t397) 0))) = some (r1,r2,r3,r4,r5):=by first | (rw [hji20] at H;exact H) | (simp only [hji20] at H ⊢;exact H)
   (try rw [hji20] at A19)
   have hji20_:(if x391000_1 < t395 then t395 else x391000_1) = ji20:=hji20
   replace H:=Option.bind_eq_some_iff.mp H
   obtain ⟨t396,A210,H⟩:=H
   replace H:((card_function_certificate.f k1 t386 t387 x21_1).bind fun t397=>(card_Measures.l0 k1 t391 (a0.size:Int) (wrap64 (x21_1 + 1)) t386 t387 ji20 (mx x391001_1 t396) (mx x391002_1 t397) 0)) = some (r1,r2,r3,r4,r5):=H
   have A21:=Aside0.mk A210
   clear A210
   obtain ⟨ji22,hji22⟩:∃ j_:Int,(mx x391001_1 t396) = j_:=⟨_,rfl⟩
   replace H:((card_function_certificate.f k1 t386 t387 x21_1).bind fun t397=>(card_Measures.l0 k1 t391 (a0.size:Int) (wrap64 (x21_1 + 1)) t386 t387 ji20 ji22 (mx x391002_1 t397) 0)) = some (r1,r2,r3,r4,r5):=by first | (rw [hji22] at H;exact H) | (simp only [hji22] at H ⊢;exact H)
   (try rw [hji22] at A19)
   (try rw [hji22] at A21)
   have hji22_:(if x391001_1 < t396 then t396 else x391001_1) = ji22:=hji22
   replace H:=Option.bind_eq_some_iff.mp H
   obtain ⟨t397,A230,H⟩:=H
   replace H:(card_Measures.l0 k1 t391 (a0.size:Int) (wrap64 (x21_1 + 1)) t386 t387 ji20 ji22 (mx x391002_1 t397) 0) = some (r1,r2,r3,r4,r5):=H
   have A23:=Aside0.mk A230
   clear A230
   obtain ⟨ji24,hji24⟩:∃ j_:Int,(mx x391002_1 t397) = j_:=⟨_,rfl⟩
   replace H:(card_Measures.l0 k1 t391 (a0.size:Int) (wrap64 (x21_1 + 1)) t386 t387 ji20 ji22 ji24 0) = some (r1,r2,r3,r4,r5):=by first | (rw [hji24] at H;exact H) | (simp only [hji24] at H ⊢;exact H)
   (try rw [hji24] at A19)
   (try rw [hji24] at A21)
   (try rw [hji24] at A23)
   have hji24_:(if x391002_1 < t397 then t397 else x391002_1) = ji24:=hji24
   have H':=Aside0.mk H
   clear H
   have p17:0 ≤ (x21_1:Int):=of_decide_eq_true (by first | (with_reducible assumption) | assumption)
   have q17:x21_1 < (t391.size:Int):=of_decide_eq_true (by first | (with_reducible assumption) | assumption)
   have hx17:=bt_at t391 x21_1
   replace p17:=eq_true p17
   replace q17:=eq_true q17
   try go_wp2
   (try simp only [setCell_drewN])
   have n0_:=Aside0.mk (blk_drew BK385.out)
   have n1_:=Aside0.mk (blk_drew BK389.out)
   have n2_:=Aside0.mk (blk_drew BK390.out)
   have n3_:=Aside0.mk (below_drew1 HB.out)
   clear BK385
   clear BK389
   clear BK390
   clear HB
   have BK385:=n0_
   have BK389:=n1_
   have BK390:=n2_
   have HB:=n3_
   clear n0_ n1_ n2_ n3_
   refine start_ (n:=8) (S:=fun w'=>w'.cell? ⟨gb390,0,none⟩ = some (.int .i64 x391000_1) ∧ w'.cell? ⟨gb390,1,none⟩ = some (.int .i64 x391001_1) ∧ w'.cell? ⟨gb390,2,none⟩ = some (.int .i64 x391002_1) ∧ w'.cell? ⟨gb390,3,none⟩ = some (.int .i64 0)) (ds:=[7]) #[false,false,false,false,false,false,false,false] (by kernel_rfl) rfl rfl ⟨(blk_cell BK390.out 0).trans rfl,(blk_cell BK390.out 1).trans rfl,(blk_cell BK390.out 2).trans rfl,(blk_cell BK390.out 3).trans rfl⟩ (fun hHeld=>?_);refine with_tabW card_Measures.tab10 card_Measures.bits10 (fun HT_ HW_=>?_)
   generalize wr.drew = w25 at BK385 BK389 BK390 HB hHeld ⊢
   refine pure_ (i:=0) (N:=some 28) (v:=?_) (a':=?_) #[true,false,false,false,false,false,false,false] rfl rfl (any_of HT_.out (by kernel_rfl)) (fun _ _ _ h=>h) (Or.inl ⟨by rfl,?_⟩) ?_ ?_
   rotate_left
   ·intro w'
    go_simp
    with_reducible rfl
   rotate_left
   ·simp only [Act.put,List.setIfInBounds_toArray,List.set_cons_zero,List.set_cons_succ,i64_w,i32_w]
    rfl
   refine pure_ (i:=2) (N:=some 30) (v:=?_) (a':=?_) #[true,false,true,false,false,false,false,false] rfl rfl (any_of HT_.out (by kernel_rfl)) (fun _ _ _ h=>h) (Or.inl ⟨by rfl,?_⟩) ?_ ?_
   rotate_left
   ·intro w'
    go_simp
    with_reducible rfl
   rotate_left
   ·simp only [Act.put,List.setIfInBounds_toArray,List.set_cons_zero,List.set_cons_succ,i64_w,i32_w]
    rfl
   refine pure_ (i:=3) (N:=some 31) (v:=?_) (a':=?_) #[true,false,true,true,false,false,false,false] rfl rfl (any_of HT_.out (by kernel_rfl)) (fun _ _ _ h=>h) (Or.inl ⟨by rfl,?_⟩) ?_ ?_
   rotate_left
   ·intro w'
    go_simp
    with_reducible rfl
   rotate_left
   ·simp only [Act.put,List.setIfInBounds_toArray,List.set_cons_zero,List.set_cons_succ,i64_w,i32_w]
    rfl
   refine take_ (i:=1) (N:=some 29) (v:=?_) (a':=?_) #[true,true,true,true,false,false,false,false] rfl rfl (take_ofW HT_.out HW_.out (by kernel_rfl)) (fun _ _ _ h=>h) (Or.inl ⟨by rfl,?_⟩) hHeld ?_ ?_
   rotate_left
   ·rintro w' ⟨s0,s1,s2,s3⟩
    go_simp
    with_reducible rfl
   rotate_left
   ·simp only [Act.put,List.setIfInBounds_toArray,List.set_cons_zero,List.set_cons_succ,i64_w,i32_w]
    rfl
   refine one_ (i:=4) (N:=some 32) #[true,true,true,true,true,false,false,false] rfl rfl (one_of HT_.out (by kernel_rfl)) (by decide) (fun K hK=>?_)
   refine goes_ Try.func84 (by kernel_rfl) rfl #[.int .u64 (IntKind.u64.wrap (x21_1))] (by rfl) rfl rfl (by (try simp only [List.map_toArray,List.map_cons,List.map_nil]);first | done | rfl | (simp only [List.length_drop,List.length_take];rfl)) ?_
   with_reducible refine (bits_OnesCount.calls (IntKind.u64.wrap (x21_1)) t395 _ A19.out).mono ?_
   rintro e w' ⟨rfl,⟨nd,rfl⟩⟩
   refine ⟨_,rfl,?_⟩
   refine hK.out _ _ ⟨(blk_cell BK390.out 0).trans rfl,(blk_cell BK390.out 1).trans rfl,(blk_cell BK390.out 2).trans rfl,(blk_cell BK390.out 3).trans rfl⟩ (fun hHeld=>?_)
   clear hK K
   refine norm_ (a':=?_) ?_ ?_
   rotate_left
   ·show Act.put _ (some 32) _ = _
    simp only [Act.put,List.setIfInBounds_toArray,List.set_cons_zero,List.set_cons_succ,i64_w,i32_w]
    rfl
   refine pure_ (i:=5) (N:=some 33) (v:=?_) (a':=?_) #[true,true,true,true,true,true,false,false] rfl rfl (any_of HT_.out (by kernel_rfl)) (fun _ _ _ h=>h) (Or.inl ⟨by rfl,?_⟩) ?_ ?_
   rotate_left
   ·intro w'
    go_simp
    with_reducible rfl
   rotate_left
   ·simp only [Act.put,List.setIfInBounds_toArray,List.set_cons_zero,List.set_cons_succ,i64_w,i32_w]
    rfl
   refine pure_ (i:=6) (N:=some 34) (v:=?_) (a':=?_) #[true,true,true,true,true,true,true,false] rfl rfl (any_of HT_.out (by kernel_rfl)) (fun _ _ _ h=>h) (Or.inl ⟨by rfl,?_⟩) ?_ ?_
   rotate_left
   ·intro w'
    go_simp
    with_reducible rfl
   rotate_left
   ·simp only [Act.put,List.setIfInBounds_toArray,List.set_cons_zero,List.set_cons_succ,i64_w,i32_w]
    rfl
   refine last_ (i:=7) (N:=none) #[true,true,true,true,true,true,true,true] rfl rfl (one_of HT_.out (by kernel_rfl)) (by decide) (fun K hK=>?_)
   have hs26:w25.cell? ⟨gb390,0,none⟩ = some (.int .i64 x391000_1):=(blk_cell BK390.out 0).trans rfl
   have hfs26:=blk_frozen BK390.out 0
   have hns26_0:=NB385_390.out
   have hns26_1:=NB389_390.out
   have hms26_0:=NB390_385.out
   have hms26_1:=NB390_389.out
   refine skip_ (w1:=?_) (by rfl) rfl ?_ ?_
   rotate_left
   ·go_simp
    rfl
   refine hK.out _ _ ?_
   clear hK K
   refine done_ (done_of HT_.out (by kernel_rfl)) ?_
   try go_wp2
   (try simp only [setCell_drewN])
   have n0_:Aside0 ((w25.setCell ⟨gb390,0,none⟩ (.int .i64 ji20)).heap[gb385]? = some (.cells #[.int .i64 0,.int .i64 0,.int .i64 0,.int .i64 0] 65 (0,0))):=⟨by (with_reducible repeat (first | refine blk_drewN ?_ _ | refine blk_drew ?_ | refine blk_alloc ?_ _));refine blk_far ?_ NB385_390.out _;(with_reducible repeat (first | refine blk_drewN ?_ _ | refine blk_drew ?_ | refine blk_alloc ?_ _));exact BK385.out⟩
   have n1_:Aside0 ((w25.setCell ⟨gb390,0,none⟩ (.int .i64 ji20)).heap[gb389]? = some (.cells #[.int .i64 t386,.string t387] 81 (0,0))):=⟨by (with_reducible repeat (first | refine blk_drewN ?_ _ | refine blk_drew ?_ | refine blk_alloc ?_ _));refine blk_far ?_ NB389_390.out _;(with_reducible repeat (first | refine blk_drewN ?_ _ | refine blk_drew ?_ | refine blk_alloc ?_ _));exact BK389.out⟩
   have n2_:Aside0 ((w25.setCell ⟨gb390,0,none⟩ (.int .i64 ji20)).heap[gb390]? = some (.cells #[.int .i64 ji20,.int .i64 x391001_1,.int .i64 x391002_1,.int .i64 0] 65 (0,0))):=⟨by (with_reducible repeat (first | refine blk_drewN ?_ _ | refine blk_drew ?_ | refine blk_alloc ?_ _));refine blk_put (cs:=#[.int .i64 x391000_1,.int .i64 x391001_1,.int .i64 x391002_1,.int .i64 0]) ?_ 0 _ rfl;(with_reducible repeat (first | refine blk_drewN ?_ _ | refine blk_drew ?_ | refine blk_alloc ?_ _));exact BK390.out⟩
   have n3_:Aside0 (Below w.heap.size w (w25.setCell ⟨gb390,0,none⟩ (.int .i64 ji20))):=⟨by repeat (first | (with_reducible first | exact HB.out | apply below_alloc | apply pw_below_drewN | apply below_drew1 | refine below_set ?_ GE385.out | refine below_set ?_ GE389.out | refine below_set ?_ GE390.out) | exact HB.out)⟩
   (try clear BK385)
   (try clear BK389)
   (try clear BK390)
   (try clear HB)
   generalize (w25.setCell ⟨gb390,0,none⟩ (.int .i64 ji20)) = w27 at n0_ n1_ n2_ n3_ ⊢
   have BK385:=n0_
   have BK389:=n1_
   have BK390:=n2_
   have HB:=n3_
   clear n0_ n1_ n2_ n3_
   (try (rw [drewN_self w27];generalize hq_:World.drewN w27 _ = w27;have n0_:Aside0 (w27.heap[gb385]? = some (.cells #[.int .i64 0,.int .i64 0,.int .i64 0,.int .i64 0] 65 (0,0))):=⟨by rw [← hq_];exact (by (with_reducible repeat (first | refine blk_drewN ?_ _ | refine blk_drew ?_ | refine blk_alloc ?_ _));exact BK385.out)⟩;have n1_:Aside0 (w27.heap[gb389]? = some (.cells #[.int .i64 t386,.string t387] 81 (0,0))):=⟨by rw [← hq_];exact (by (with_reducible repeat (first | refine blk_drewN ?_ _ | refine blk_drew ?_ | refine blk_alloc ?_ _));exact BK389.out)⟩;have n2_:Aside0 (w27.heap[gb390]? = some (.cells #[.int .i64 ji20,.int .i64 x391001_1,.int .i64 x391002_1,.int .i64 0] 65 (0,0))):=⟨by rw [← hq_];exact (by (with_reducible repeat (first | refine blk_drewN ?_ _ | refine blk_drew ?_ | refine blk_alloc ?_ _));exact BK390.out)⟩;have n3_:Aside0 (Below w.heap.size w w27):=⟨by rw [← hq_];exact (by repeat (first | (with_reducible first | exact HB.out | apply below_alloc | apply pw_below_drewN | apply below_drew1 | refine below_set ?_ GE385.out | refine below_set ?_ GE389.out | refine below_set ?_ GE390.out) | exact HB.out))⟩;clear BK385 BK389 BK390 HB hq_;have BK385:=n0_;have BK389:=n1_;have BK390:=n2_;have HB:=n3_;clear n0_ n1_ n2_ n3_))
   have n0_:=Aside0.mk (blk_drew BK385.out)
   have n1_:=Aside0.mk (blk_drew BK389.out)
   have n2_:=Aside0.mk (blk_drew BK390.out)
   have n3_:=Aside0.mk (below_drew1 HB.out)
   clear BK385
   clear BK389
   clear BK390
   clear HB
   have BK385:=n0_
   have BK389:=n1_
   have BK390:=n2_
   have HB:=n3_
   clear n0_ n1_ n2_ n3_
   refine start_ (n:=8) (S:=fun w'=>w'.cell? ⟨gb390,0,none⟩ = some (.int .i64 ji20) ∧ w'.cell? ⟨gb390,1,none⟩ = some (.int .i64 x391001_1) ∧ w'.cell? ⟨gb390,2,none⟩ = some (.int .i64 x391002_1) ∧ w'.cell? ⟨gb390,3,none⟩ = some (.int .i64 0) ∧ w'.cell? ⟨gb389,0,none⟩ = some (.int .i64 t386) ∧ w'.cell? ⟨gb389,1,none⟩ = some (.string t387)) (ds:=[7]) #[false,false,false,false,false,false,false,false] (by kernel_rfl) rfl rfl ⟨(blk_cell BK390.out 0).trans rfl,(blk_cell BK390.out 1).trans rfl,(blk_cell BK390.out 2).trans rfl,(blk_cell BK390.out 3).trans rfl,(blk_cell BK389.out 0).trans rfl,(blk_cell BK389.out 1).trans rfl⟩ (fun hHeld=>?_);refine with_tabW card_Measures.tab11 card_Measures.bits11 (fun HT_ HW_=>?_)
   generalize w27.drew = w28 at BK385 BK389 BK390 HB hHeld ⊢
   refine pure_ (i:=0) (N:=some 35) (v:=?_) (a':=?_) #[true,false,false,false,false,false,false,false] rfl rfl (any_of HT_.out (by kernel_rfl)) (fun _ _ _ h=>h) (Or.inl ⟨by rfl,?_⟩) ?_ ?_
   rotate_left
   ·intro w'
    go_simp
    with_reducible rfl
   rotate_left
   ·simp only [Act.put,List.setIfInBounds_toArray,List.set_cons_zero,List.set_cons_succ,i64_w,i32_w]
    rfl
   refine pure_ (i:=3) (N:=some 38) (v:=?_) (a':=?_) #[true,false,false,true,false,false,false,false] rfl rfl (any_of HT_.out (by kernel_rfl)) (fun _ _ _ h=>h) (Or.inl ⟨by rfl,?_⟩) ?_ ?_
   rotate_left
   ·intro w'
    go_simp
    with_reducible rfl
   rotate_left
   ·simp only [Act.put,List.setIfInBounds_toArray,List.set_cons_zero,List.set_cons_succ,i64_w,i32_w]
    rfl
   refine take_ (i:=1) (N:=some 36) (v:=?_) (a':=?_) #[true,true,false,true,false,false,false,false] rfl rfl (take_ofW HT_.out HW_.out (by kernel_rfl)) (fun _ _ _ h=>h) (Or.inl ⟨by rfl,?_⟩) hHeld ?_ ?_
   rotate_left
   ·rintro w' ⟨s0,s1,s2,s3,s4,s5⟩
    go_simp
    with_reducible rfl
   rotate_left
   ·simp only [Act.put,List.setIfInBounds_toArray,List.set_cons_zero,List.set_cons_succ,i64_w,i32_w]
    rfl
   refine take_ (i:=2) (N:=some 37) (v:=?_) (a':=?_) #[true,true,true,true,false,false,false,false] rfl rfl (take_ofW HT_.out HW_.out (by kernel_rfl)) (fun _ _ _ h=>h) (Or.inl ⟨by rfl,?_⟩) hHeld ?_ ?_
   rotate_left
   ·rintro w' ⟨s0,s1,s2,s3,s4,s5⟩
    go_simp
    with_reducible rfl
   rotate_left
   ·simp only [Act.put,List.setIfInBounds_toArray,List.set_cons_zero,List.set_cons_succ,i64_w,i32_w]
    rfl
   refine one_ (i:=4) (N:=some 39) #[true,true,true,true,true,false,false,false] rfl rfl (one_of HT_.out (by kernel_rfl)) (by decide) (fun K hK=>?_)
   refine goes_ Try.func85 (by kernel_rfl) rfl #[.agg #[.int .i64 t386,.string t387],.int .i64 x21_1] (by rfl) rfl rfl (by (try simp only [List.map_toArray,List.map_cons,List.map_nil]);first | done | rfl | (simp only [List.length_drop,List.length_take];rfl)) ?_
   with_reducible refine (card_function_sensitivity.calls k1 t386 t387 x21_1 t396 _ A21.out).mono ?_
   rintro e w29 ⟨rfl,hb⟩
   refine ⟨_,rfl,?_⟩
   have n0_:=Aside0.mk (blk_below (g:=gb385) (o:=.cells #[.int .i64 0,.int .i64 0,.int .i64 0,.int .i64 0] 65 (0,0)) (by (with_reducible repeat (first | refine blk_drewN ?_ _ | refine blk_drew ?_ | refine blk_alloc ?_ _));exact BK385.out) hb)
   have n1_:=Aside0.mk (blk_below (g:=gb389) (o:=.cells #[.int .i64 t386,.string t387] 81 (0,0)) (by (with_reducible repeat (first | refine blk_drewN ?_ _ | refine blk_drew ?_ | refine blk_alloc ?_ _));exact BK389.out) hb)
   have n2_:=Aside0.mk (blk_below (g:=gb390) (o:=.cells #[.int .i64 ji20,.int .i64 x391001_1,.int .i64 x391002_1,.int .i64 0] 65 (0,0)) (by (with_reducible repeat (first | refine blk_drewN ?_ _ | refine blk_drew ?_ | refine blk_alloc ?_ _));exact BK390.out) hb)
   have n3_:=Aside0.mk (below_step (by repeat (first | (with_reducible first | exact HB.out | apply below_alloc | apply pw_below_drewN | apply below_drew1 | refine below_set ?_ GE385.out | refine below_set ?_ GE389.out | refine below_set ?_ GE390.out) | exact HB.out)) hb)
   clear BK385
   clear BK389
   clear BK390
   clear HB
   have BK385:=n0_
   have BK389:=n1_
   have BK390:=n2_
   have HB:=n3_
   clear n0_ n1_ n2_ n3_
   (try clear hb)
   refine hK.out _ _ ⟨(blk_cell BK390.out 0).trans rfl,(blk_cell BK390.out 1).trans rfl,(blk_cell BK390.out 2).trans rfl,(blk_cell BK390.out 3).trans rfl,(blk_cell BK389.out 0).trans rfl,(blk_cell BK389.out 1).trans rfl⟩ (fun hHeld=>?_)
   clear hK K
   refine norm_ (a':=?_) ?_ ?_
   rotate_left
   ·show Act.put _ (some 39) _ = _
    simp only [Act.put,List.setIfInBounds_toArray,List.set_cons_zero,List.set_cons_succ,i64_w,i32_w]
    rfl
   refine pure_ (i:=5) (N:=some 40) (v:=?_) (a':=?_) #[true,true,true,true,true,true,false,false] rfl rfl (any_of HT_.out (by kernel_rfl)) (fun _ _ _ h=>h) (Or.inl ⟨by rfl,?_⟩) ?_ ?_
   rotate_left
   ·intro w'
    go_simp
    with_reducible rfl
   rotate_left
   ·simp only [Act.put,List.setIfInBounds_toArray,List.set_cons_zero,List.set_cons_succ,i64_w,i32_w]
    rfl
   refine pure_ (i:=6) (N:=some 41) (v:=?_) (a':=?_) #[true,true,true,true,true,true,true,false] rfl rfl (any_of HT_.out (by kernel_rfl)) (fun _ _ _ h=>h) (Or.inl ⟨by rfl,?_⟩) ?_ ?_
   rotate_left
   ·intro w'
    go_simp
    with_reducible rfl
   rotate_left
   ·simp only [Act.put,List.setIfInBounds_toArray,List.set_cons_zero,List.set_cons_succ,i64_w,i32_w]
    rfl
   refine last_ (i:=7) (N:=none) #[true,true,true,true,true,true,true,true] rfl rfl (one_of HT_.out (by kernel_rfl)) (by decide) (fun K hK=>?_)
   have hs30:w29.cell? ⟨gb390,1,none⟩ = some (.int .i64 x391001_1):=(blk_cell BK390.out 1).trans rfl
   have hfs30:=blk_frozen BK390.out 1
   have hns30_0:=NB385_390.out
   have hns30_1:=NB389_390.out
   have hms30_0:=NB390_385.out
   have hms30_1:=NB390_389.out
   refine skip_ (w1:=?_) (by rfl) rfl ?_ ?_
   rotate_left
   ·go_simp
    rfl
   refine hK.out _ _ ?_
   clear hK K
   refine done_ (done_of HT_.out (by kernel_rfl)) ?_
   try go_wp2
   (try simp only [setCell_drewN])
   have n0_:Aside0 ((w29.setCell ⟨gb390,1,none⟩ (.int .i64 ji22)).heap[gb385]? = some (.cells #[.int .i64 0,.int .i64 0,.int .i64 0,.int .i64 0] 65 (0,0))):=⟨by (with_reducible repeat (first | refine blk_drewN ?_ _ | refine blk_drew ?_ | refine blk_alloc ?_ _));refine blk_far ?_ NB385_390.out _;(with_reducible repeat (first | refine blk_drewN ?_ _ | refine blk_drew ?_ | refine blk_alloc ?_ _));exact BK385.out⟩
   have n1_:Aside0 ((w29.setCell ⟨gb390,1,none⟩ (.int .i64 ji22)).heap[gb389]? = some (.cells #[.int .i64 t386,.string t387] 81 (0,0))):=⟨by (with_reducible repeat (first | refine blk_drewN ?_ _ | refine blk_drew ?_ | refine blk_alloc ?_ _));refine blk_far ?_ NB389_390.out _;(with_reducible repeat (first | refine blk_drewN ?_ _ | refine blk_drew ?_ | refine blk_alloc ?_ _));exact BK389.out⟩
   have n2_:Aside0 ((w29.setCell ⟨gb390,1,none⟩ (.int .i64 ji22)).heap[gb390]? = some (.cells #[.int .i64 ji20,.int .i64 ji22,.int .i64 x391002_1,.int .i64 0] 65 (0,0))):=⟨by (with_reducible repeat (first | refine blk_drewN ?_ _ | refine blk_drew ?_ | refine blk_alloc ?_ _));refine blk_put (cs:=#[.int .i64 ji20,.int .i64 x391001_1,.int .i64 x391002_1,.int .i64 0]) ?_ 1 _ rfl;(with_reducible repeat (first | refine blk_drewN ?_ _ | refine blk_drew ?_ | refine blk_alloc ?_ _));exact BK390.out⟩
   have n3_:Aside0 (Below w.heap.size w (w29.setCell ⟨gb390,1,none⟩ (.int .i64 ji22))):=⟨by repeat (first | (with_reducible first | exact HB.out | apply below_alloc | apply pw_below_drewN | apply below_drew1 | refine below_set ?_ GE385.out | refine below_set ?_ GE389.out | refine below_set ?_ GE390.out) | exact HB.out)⟩
   (try clear BK385)
   (try clear BK389)
   (try clear BK390)
   (try clear HB)
   generalize (w29.setCell ⟨gb390,1,none⟩ (.int .i64 ji22)) = w31 at n0_ n1_ n2_ n3_ ⊢
   have BK385:=n0_
   have BK389:=n1_
   have BK390:=n2_
   have HB:=n3_
   clear n0_ n1_ n2_ n3_
   have n0_:=Aside0.mk (blk_drew BK385.out)
   have n1_:=Aside0.mk (blk_drew BK389.out)
   have n2_:=Aside0.mk (blk_drew BK390.out)
   have n3_:=Aside0.mk (below_drew1 HB.out)
   clear BK385
   clear BK389
   clear BK390
   clear HB
   have BK385:=n0_
   have BK389:=n1_
   have BK390:=n2_
   have HB:=n3_
   clear n0_ n1_ n2_ n3_
   refine start_ (n:=8) (S:=fun w'=>w'.cell? ⟨gb390,0,none⟩ = some (.int .i64 ji20) ∧ w'.cell? ⟨gb390,1,none⟩ = some (.int .i64 ji22) ∧ w'.cell? ⟨gb390,2,none⟩ = some (.int .i64 x391002_1) ∧ w'.cell? ⟨gb390,3,none⟩ = some (.int .i64 0) ∧ w'.cell? ⟨gb389,0,none⟩ = some (.int .i64 t386) ∧ w'.cell? ⟨gb389,1,none⟩ = some (.string t387)) (ds:=[7]) #[false,false,false,false,false,false,false,false] (by kernel_rfl) rfl rfl ⟨(blk_cell BK390.out 0).trans rfl,(blk_cell BK390.out 1).trans rfl,(blk_cell BK390.out 2).trans rfl,(blk_cell BK390.out 3).trans rfl,(blk_cell BK389.out 0).trans rfl,(blk_cell BK389.out 1).trans rfl⟩ (fun hHeld=>?_);refine with_tabW card_Measures.tab12 card_Measures.bits12 (fun HT_ HW_=>?_)
   generalize w31.drew = w32 at BK385 BK389 BK390 HB hHeld ⊢
   refine pure_ (i:=0) (N:=some 42) (v:=?_) (a':=?_) #[true,false,false,false,false,false,false,false] rfl rfl (any_of HT_.out (by kernel_rfl)) (fun _ _ _ h=>h) (Or.inl ⟨by rfl,?_⟩) ?_ ?_
   rotate_left
   ·intro w'
    go_simp
    with_reducible rfl
   rotate_left
   ·simp only [Act.put,List.setIfInBounds_toArray,List.set_cons_zero,List.set_cons_succ,i64_w,i32_w]
    rfl
   refine pure_ (i:=3) (N:=some 45) (v:=?_) (a':=?_) #[true,false,false,true,false,false,false,false] rfl rfl (any_of HT_.out (by kernel_rfl)) (fun _ _ _ h=>h) (Or.inl ⟨by rfl,?_⟩) ?_ ?_
   rotate_left
   ·intro w'
    go_simp
    with_reducible rfl
   rotate_left
   ·simp only [Act.put,List.setIfInBounds_toArray,List.set_cons_zero,List.set_cons_succ,i64_w,i32_w]
    rfl
   refine take_ (i:=1) (N:=some 43) (v:=?_) (a':=?_) #[true,true,false,true,false,false,false,false] rfl rfl (take_ofW HT_.out HW_.out (by kernel_rfl)) (fun _ _ _ h=>h) (Or.inl ⟨by rfl,?_⟩) hHeld ?_ ?_
   rotate_left
   ·rintro w' ⟨s0,s1,s2,s3,s4,s5⟩
    go_simp
    with_reducible rfl
   rotate_left
   ·simp only [Act.put,List.setIfInBounds_toArray,List.set_cons_zero,List.set_cons_succ,i64_w,i32_w]
    rfl
   refine take_ (i:=2) (N:=some 44) (v:=?_) (a':=?_) #[true,true,true,true,false,false,false,false] rfl rfl (take_ofW HT_.out HW_.out (by kernel_rfl)) (fun _ _ _ h=>h) (Or.inl ⟨by rfl,?_⟩) hHeld ?_ ?_
   rotate_left
   ·rintro w' ⟨s0,s1,s2,s3,s4,s5⟩
    go_simp
    with_reducible rfl
   rotate_left
   ·simp only [Act.put,List.setIfInBounds_toArray,List.set_cons_zero,List.set_cons_succ,i64_w,i32_w]
    rfl
   refine one_ (i:=4) (N:=some 46) #[true,true,true,true,true,false,false,false] rfl rfl (one_of HT_.out (by kernel_rfl)) (by decide) (fun K hK=>?_)
   refine goes_ Try.func86 (by kernel_rfl) rfl #[.agg #[.int .i64 t386,.string t387],.int .i64 x21_1] (by rfl) rfl rfl (by (try simp only [List.map_toArray,List.map_cons,List.map_nil]);first | done | rfl | (simp only [List.length_drop,List.length_take];rfl)) ?_
   with_reducible refine (card_function_certificate.calls k1 t386 t387 x21_1 t397 _ A23.out).mono ?_
   rintro e w33 ⟨rfl,hb⟩
   refine ⟨_,rfl,?_⟩
   have n0_:=Aside0.mk (blk_below (g:=gb385) (o:=.cells #[.int .i64 0,.int .i64 0,.int .i64 0,.int .i64 0] 65 (0,0)) (by (with_reducible repeat (first | refine blk_drewN ?_ _ | refine blk_drew ?_ | refine blk_alloc ?_ _));exact BK385.out) hb)
   have n1_:=Aside0.mk (blk_below (g:=gb389) (o:=.cells #[.int .i64 t386,.string t387] 81 (0,0)) (by (with_reducible repeat (first | refine blk_drewN ?_ _ | refine blk_drew ?_ | refine blk_alloc ?_ _));exact BK389.out) hb)
   have n2_:=Aside0.mk (blk_below (g:=gb390) (o:=.cells #[.int .i64 ji20,.int .i64 ji22,.int .i64 x391002_1,.int .i64 0] 65 (0,0)) (by (with_reducible repeat (first | refine blk_drewN ?_ _ | refine blk_drew ?_ | refine blk_alloc ?_ _));exact BK390.out) hb)
   have n3_:=Aside0.mk (below_step (by repeat (first | (with_reducible first | exact HB.out | apply below_alloc | apply pw_below_drewN | apply below_drew1 | refine below_set ?_ GE385.out | refine below_set ?_ GE389.out | refine below_set ?_ GE390.out) | exact HB.out)) hb)
   clear BK385
   clear BK389
   clear BK390
   clear HB
   have BK385:=n0_
   have BK389:=n1_
   have BK390:=n2_
   have HB:=n3_
   clear n0_ n1_ n2_ n3_
   (try clear hb)
   refine hK.out _ _ ⟨(blk_cell BK390.out 0).trans rfl,(blk_cell BK390.out 1).trans rfl,(blk_cell BK390.out 2).trans rfl,(blk_cell BK390.out 3).trans rfl,(blk_cell BK389.out 0).trans rfl,(blk_cell BK389.out 1).trans rfl⟩ (fun hHeld=>?_)
   clear hK K
   refine norm_ (a':=?_) ?_ ?_
   rotate_left
   ·show Act.put _ (some 46) _ = _
    simp only [Act.put,List.setIfInBounds_toArray,List.set_cons_zero,List.set_cons_succ,i64_w,i32_w]
    rfl
   refine pure_ (i:=5) (N:=some 47) (v:=?_) (a':=?_) #[true,true,true,true,true,true,false,false] rfl rfl (any_of HT_.out (by kernel_rfl)) (fun _ _ _ h=>h) (Or.inl ⟨by rfl,?_⟩) ?_ ?_
   rotate_left
   ·intro w'
    go_simp
    with_reducible rfl
   rotate_left
   ·simp only [Act.put,List.setIfInBounds_toArray,List.set_cons_zero,List.set_cons_succ,i64_w,i32_w]
    rfl
   refine pure_ (i:=6) (N:=some 48) (v:=?_) (a':=?_) #[true,true,true,true,true,true,true,false] rfl rfl (any_of HT_.out (by kernel_rfl)) (fun _ _ _ h=>h) (Or.inl ⟨by rfl,?_⟩) ?_ ?_
   rotate_left
   ·intro w'
    go_simp
    with_reducible rfl
   rotate_left
   ·simp only [Act.put,List.setIfInBounds_toArray,List.set_cons_zero,List.set_cons_succ,i64_w,i32_w]
    rfl
   refine last_ (i:=7) (N:=none) #[true,true,true,true,true,true,true,true] rfl rfl (one_of HT_.out (by kernel_rfl)) (by decide) (fun K hK=>?_)
   have hs34:w33.cell? ⟨gb390,2,none⟩ = some (.int .i64 x391002_1):=(blk_cell BK390.out 2).trans rfl
   have hfs34:=blk_frozen BK390.out 2
   have hns34_0:=NB385_390.out
   have hns34_1:=NB389_390.out
   have hms34_0:=NB390_385.out
   have hms34_1:=NB390_389.out
   refine skip_ (w1:=?_) (by rfl) rfl ?_ ?_
   rotate_left
   ·go_simp
    rfl
   refine hK.out _ _ ?_
   clear hK K
   refine done_ (done_of HT_.out (by kernel_rfl)) ?_
   try go_wp2
   (try simp only [setCell_drewN])
   go_roundg k1
   case measure=>have:=HK1.out;omega
   case rel=>exact ⟨(wrap64 (x21_1 + 1)),(ji20),(ji22),(ji24),(by first | rfl | (simp;done) | (simp [*];done)),H',⟨by have:=HK1.out;omega⟩,⟨by (with_reducible repeat (first | refine blk_drewN ?_ _ | refine blk_drew ?_ | refine blk_alloc ?_ _));refine blk_far ?_ NB385_390.out _;(with_reducible repeat (first | refine blk_drewN ?_ _ | refine blk_drew ?_ | refine blk_alloc ?_ _));exact BK385.out⟩,⟨by (with_reducible repeat (first | refine blk_drewN ?_ _ | refine blk_drew ?_ | refine blk_alloc ?_ _));refine blk_far ?_ NB389_390.out _;(with_reducible repeat (first | refine blk_drewN ?_ _ | refine blk_drew ?_ | refine blk_alloc ?_ _));exact BK389.out⟩,⟨by (with_reducible repeat (first | refine blk_drewN ?_ _ | refine blk_drew ?_ | refine blk_alloc ?_ _));refine blk_put (cs:=#[.int .i64 ji20,.int .i64 ji22,.int .i64 x391002_1,.int .i64 0]) ?_ 2 _ rfl;(with_reducible repeat (first | refine blk_drewN ?_ _ | refine blk_drew ?_ | refine blk_alloc ?_ _));exact BK390.out⟩,⟨by repeat (first | (with_reducible first | exact HB.out | apply below_alloc | apply pw_below_drewN | apply below_drew1 | refine below_set ?_ GE385.out | refine below_set ?_ GE389.out | refine below_set ?_ GE390.out) | exact HB.out)⟩⟩
end Go.Proofs.Ythpahlkhiknofaa.G
set_option linter.unusedSectionVars false
namespace Go.Proofs.Ythpahlkhiknofaa.P
open Go Go.RowKit Go.Proofs.Ythpahlkhiknofaa.M Go.Proofs.Ythpahlkhiknofaa.G
open Go.Proofs.YthpahlkhiknofaaW.PrintWords Go.Proofs.YthpahlkhiknofaaW.PrintMore
def popN (a:Nat):Nat:=a % 2 + a / 2 % 2 + a / 4 % 2 + a / 8 % 2 + a / 16 % 2
theorem pop_f:∀ a:Fin 32,bits_OnesCount.f (IntKind.u64.wrap (a.val:Int)) = some (popN a.val:Int):=by decide +kernel
theorem str_size (xs:List Int):(strOfNums xs).size = xs.length:=by
  unfold strOfNums
  show (xs.map fun n=>UInt8.ofNat n.toNat).toArray.size = xs.length
  simp
theorem str_bt {xs:List Int} {i:Nat} (h:i < xs.length) (h0:0 ≤ xs[i]) (h1:xs[i] < 256):bt (strOfNums xs) (i:Int) = xs[i]:=by
  have hs:i < (strOfNums xs).size:=by rw [str_size];exact h
  rw [bt_get hs]
  have e:(strOfNums xs)[i] = UInt8.ofNat xs[i].toNat:=by
    show (xs.map fun n=>UInt8.ofNat n.toNat).toArray[i]'(by simpa using h) = _
    simp
  rw [e,UInt8.toNat_ofNat_of_lt' (by show xs[i].toNat < 256;omega)]
  omega
def senN (c:ByteArray) (p:Nat):Nat → Nat
  | 0=>0
  | i + 1=>if bt c (p:Int) = bt c ((p ^^^ 2 ^ i:Nat):Int) then senN c p i else senN c p i + 1
theorem senN_le (c:ByteArray) (p:Nat):∀ i,senN c p i ≤ i
  | 0=>Nat.le_refl _
  | i + 1=>by
    have:=senN_le c p i
    rw [senN];split <;> omega
def dcdB (c:ByteArray) (p care:Nat) (d i:Nat):Bool:=allF (fun q=>!((p ^^^ q) &&& care == 0) || decide (bt c (q:Int) = bt c (p:Int))) d i
def cerN (c:ByteArray) (n p:Nat):Nat → Nat
  | 0=>n
  | a + 1=>if popN a < cerN c n p a ∧ dcdB c p a c.size 0 = true then popN a else cerN c n p a
theorem cerN_le (c:ByteArray) (n p:Nat):∀ a,cerN c n p a ≤ n
  | 0=>Nat.le_refl _
  | a + 1=>by
    have:=cerN_le c n p a
    rw [cerN];split <;> omega
section
variable {c:ByteArray} {n:Nat} (hT:Tot c n)
include hT
theorem pow_small {i:Nat} (hi:i < n):2 ^ i ≤ 16:=by
  have h5:=hT.n5
  have:2 ^ i ≤ 2 ^ 4:=Nat.pow_le_pow_right (by decide) (by omega)
  omega
theorem xor_in {p i:Nat} (hp:p < c.size) (hi:i < n):Go.bits .xor .i64 (p:Int) (shl .i64 1 (i:Int)) = ((p ^^^ 2 ^ i:Nat):Int) ∧ p ^^^ 2 ^ i < c.size:=by
  have h5:=hT.n5
  have hle:=hT.le
  have h2:=pow_small hT hi
  refine ⟨?_,?_⟩
  · rw [shl_one (by omega)]
    exact xor_small ⟨p,by omega⟩ ⟨2 ^ i,by omega⟩
  · rw [hT.size] at hp ⊢
    exact Nat.xor_lt_two_pow hp (Nat.pow_lt_pow_right (by decide) hi)
theorem sens_l0 {p:Nat} (hp:p < c.size):∀ d i,i + d = n → Ev (fun k=>card_function_sensitivity.l0 k (p:Int) (senN c p i:Int) (n:Int) (i:Int) (n:Int) c) (senN c p n:Int):=by
  have h5:=hT.n5
  intro d
  induction d with
  | zero =>
    intro i hi
    obtain rfl:i = n:=by omega
    refine Ev.step (f:=fun _=>some (senN c p i:Int)) (fun k=>?_) (Ev.now _)
    rw [card_function_sensitivity.l0,if_neg (by omega)]
  | succ d ih =>
    intro i hi
    have hnx:=ih (i + 1) (by omega)
    obtain ⟨e1,e2⟩:=xor_in hT hp (show i < n by omega)
    have hs:=senN_le c p i
    rw [senN] at hnx
    refine Ev.step (fun k=>by rw [card_function_sensitivity.l0,if_pos (by omega),if_pos (by omega),if_pos (by omega),if_pos (by omega),e1,if_pos (by omega),if_pos (by omega),wrap_succ (by omega),wrap_succ (by omega)]) ?_
    by_cases h:bt c (p:Int) = bt c ((p ^^^ 2 ^ i:Nat):Int)
    · rw [if_pos h] at hnx
      exact Ev.congr (fun k=>if_pos h) hnx
    · rw [if_neg h] at hnx
      exact Ev.congr (fun k=>if_neg h) hnx
theorem dcd_cond {p q a:Nat} (hp:p < c.size) (hq:q < c.size) (ha:a < c.size):(Go.bits .and .i64 (Go.bits .xor .i64 (p:Int) (q:Int)) (a:Int) = 0) ↔ ((p ^^^ q) &&& a == 0) = true:=by
  have hle:=hT.le
  have h1:Go.bits .xor .i64 (p:Int) (q:Int) = ((p ^^^ q:Nat):Int):=xor_small ⟨p,by omega⟩ ⟨q,by omega⟩
  have h2:p ^^^ q < 2 ^ 5:=Nat.xor_lt_two_pow (show p < 2 ^ 5 by omega) (show q < 2 ^ 5 by omega)
  rw [h1,ni_and _ _ (by omega) (by omega),beq_iff_eq]
  exact ⟨fun h=>by exact_mod_cast h,fun h=>by rw [h];rfl⟩
theorem dcd_l0 {p a:Nat} (hp:p < c.size) (ha:a < c.size):∀ d q,q + d = c.size → Ev (fun k=>card_function_decided.l0 k (p:Int) (a:Int) (c.size:Int) (q:Int) (n:Int) c) (dcdB c p a d q):=by
  intro d
  induction d with
  | zero =>
    intro q hq
    refine Ev.step (f:=fun _=>some true) (fun k=>?_) (Ev.now _)
    rw [card_function_decided.l0,if_neg (by omega)]
  | succ d ih =>
    intro q hq
    have hnx:=ih (q + 1) (by omega)
    have hcond:=dcd_cond hT hp (show q < c.size by omega) ha
    unfold dcdB at hnx ⊢
    rw [allF]
    refine Ev.step (fun k=>by rw [card_function_decided.l0,if_pos (by omega),wrap_succ (by have:=hT.le;omega)]) ?_
    by_cases h:((p ^^^ q) &&& a == 0) = true
    · rw [h,Bool.not_true,Bool.false_or]
      refine Ev.congr (fun k=>if_pos (hcond.2 h)) (Ev.congr (fun k=>if_pos (by omega)) (Ev.congr (fun k=>if_pos (by omega)) (Ev.congr (fun k=>if_pos (by omega)) (Ev.congr (fun k=>if_pos (by omega)) ?_))))
      by_cases h2:bt c (q:Int) = bt c (p:Int)
      · rw [decide_eq_true h2,Bool.true_and]
        exact Ev.congr (fun k=>if_pos h2) hnx
      · rw [decide_eq_false h2,Bool.false_and]
        exact Ev.congr (fun k=>if_neg h2) (Ev.now _)
    · have h':((p ^^^ q) &&& a == 0) = false:=by simpa using h
      rw [h',Bool.not_false,Bool.true_or,Bool.true_and]
      exact Ev.congr (fun k=>if_neg (fun h2=>h (hcond.1 h2))) hnx
theorem cert_l0 {p:Nat} (hp:p < c.size):∀ d a,a + d = c.size → Ev (fun k=>card_function_certificate.l0 k (p:Int) (cerN c n p a:Int) (c.size:Int) (a:Int) (n:Int) c) (cerN c n p c.size:Int):=by
  have hle:=hT.le
  intro d
  induction d with
  | zero =>
    intro a ha
    obtain rfl:a = c.size:=by omega
    refine Ev.step (f:=fun _=>some (cerN c n p c.size:Int)) (fun k=>?_) (Ev.now _)
    rw [card_function_certificate.l0,if_neg (by omega)]
  | succ d ih =>
    intro a ha
    have hnx:=ih (a + 1) (by omega)
    rw [cerN] at hnx
    have hd:Ev (fun k=>card_function_decided.f k (n:Int) c (p:Int) (a:Int)) (dcdB c p a c.size 0):=dcd_l0 hT hp (by omega) c.size 0 (by omega)
    refine Ev.step (fun k=>by rw [card_function_certificate.l0,if_pos (by omega),pop_f ⟨a,by omega⟩,Option.bind_some,wrap_succ (by omega)]) ?_
    by_cases h:popN a < cerN c n p a
    · refine Ev.congr (fun k=>if_pos (by show (popN a:Int) < _;omega)) (Ev.bind hd ?_)
      by_cases h2:dcdB c p a c.size 0 = true
      · rw [if_pos ⟨h,h2⟩] at hnx
        exact Ev.congr (fun k=>if_pos h2) hnx
      · rw [if_neg (fun h3=>h2 h3.2)] at hnx
        exact Ev.congr (fun k=>if_neg h2) hnx
    · rw [if_neg (fun h3=>h h3.1)] at hnx
      exact Ev.congr (fun k=>if_neg (by show ¬ (popN a:Int) < _;omega)) hnx
theorem ones_l0:∀ d i,i + d = c.size → Ev (fun k=>card_function_ones.l0 k (((List.range i).filter (vB c)).map Int.ofNat) (c.size:Int) (i:Int) (n:Int) c) (((List.range c.size).filter (vB c)).map Int.ofNat):=by
  have hle:=hT.le
  intro d
  induction d with
  | zero =>
    intro i hi
    obtain rfl:i = c.size:=by omega
    refine Ev.step (f:=fun _=>some (((List.range c.size).filter (vB c)).map Int.ofNat)) (fun k=>?_) (Ev.now _)
    rw [card_function_ones.l0,if_neg (by omega)]
  | succ d ih =>
    intro i hi
    have hnx:=ih (i + 1) (by omega)
    rw [List.range_succ,List.filter_append,List.map_append] at hnx
    have hl:(((List.range i).filter (vB c)).map Int.ofNat).length ≤ i:=by
      rw [List.length_map]
      exact Nat.le_trans (List.length_filter_le _ _) (by rw [List.length_range];exact Nat.le_refl _)
    refine Ev.step (fun k=>by rw [card_function_ones.l0,if_pos (by omega),if_pos (by omega),if_pos (by omega),wrap_succ (by omega)]) ?_
    by_cases h:bt c (i:Int) = 49
    · have hv:vB c i = true:=decide_eq_true h
      have e:(([i].filter (vB c)).map Int.ofNat) = [(i:Int)]:=by simp [hv]
      rw [e] at hnx
      exact Ev.congr (fun k=>if_pos h) (Ev.congr (fun k=>if_pos (by omega)) hnx)
    · have hv:vB c i = false:=decide_eq_false h
      have e:(([i].filter (vB c)).map Int.ofNat) = []:=by simp [hv]
      rw [e,List.append_nil] at hnx
      exact Ev.congr (fun k=>if_neg h) hnx
def cntN (c:ByteArray) (i:Nat):Nat:=((List.range i).filter (vB c)).length
omit hT in
theorem cntN_succ (c:ByteArray) (i:Nat):cntN c (i + 1) = if vB c i = true then cntN c i + 1 else cntN c i:=by
  unfold cntN
  rw [List.range_succ,List.filter_append,List.length_append]
  by_cases h:vB c i = true
  · rw [if_pos h];simp [h]
  · rw [if_neg h];simp [h]
omit hT in
theorem cntN_le (c:ByteArray) (i:Nat):cntN c i ≤ i:=by
  unfold cntN
  exact Nat.le_trans (List.length_filter_le _ _) (by rw [List.length_range];exact Nat.le_refl _)
def degI (c:ByteArray) (n:Nat):Nat → Int
  | 0=>0
  | p + 1=>if sumA c n p = true then mx (degI c n p) (popN p:Int) else degI c n p
def senI (c:ByteArray) (n:Nat):Nat → Int
  | 0=>0
  | p + 1=>mx (senI c n p) (senN c p n:Int)
def cerI (c:ByteArray) (n:Nat):Nat → Int
  | 0=>0
  | p + 1=>mx (cerI c n p) (cerN c n p c.size:Int)
theorem sumS_size:(sumS c n).size = c.size:=by unfold sumS;rw [str_size,tabI_len]
theorem sumS_bt {p:Nat} (hp:p < c.size):(bt (sumS c n) (p:Int) = 49) ↔ sumA c n p = true:=by
  unfold sumS
  have hl:p < (tabI c.size fun q=>dig (sumA c n q)).length:=by rw [tabI_len];exact hp
  have e:(tabI c.size fun q=>dig (sumA c n q))[p] = dig (sumA c n p):=by simp [tabI]
  rw [str_bt hl (by rw [e];unfold dig;split <;> omega) (by rw [e];unfold dig;split <;> omega),e]
  unfold dig
  cases sumA c n p <;> simp
theorem meas_l0:∀ d p,p + d = c.size → Ev (fun k=>card_Measures.l0 k (sumS c n) (c.size:Int) (p:Int) (n:Int) c (degI c n p) (senI c n p) (cerI c n p) 0) (degI c n c.size,senI c n c.size,cerI c n c.size,(cntN c c.size:Int),0):=by
  have hle:=hT.le
  have hs:=sumS_size hT
  have h5:=hT.n5
  intro d
  induction d with
  | zero =>
    intro p hp
    obtain rfl:p = c.size:=by omega
    have e0:Ev (fun k=>card_function_ones.f k (n:Int) c) (((List.range c.size).filter (vB c)).map Int.ofNat):=ones_l0 hT c.size 0 (by omega)
    refine Ev.step (fun k=>by rw [card_Measures.l0,if_neg (by omega)]) (Ev.bind e0 ?_)
    have e:((((List.range c.size).filter (vB c)).map Int.ofNat).length:Int) = (cntN c c.size:Int):=by unfold cntN;rw [List.length_map]
    rw [e]
    exact Ev.now _
  | succ d ih =>
    intro p hp
    have hpl:p < c.size:=by omega
    have hnx:=ih (p + 1) (by omega)
    rw [degI,senI,cerI] at hnx
    have e1:Ev (fun k=>card_function_sensitivity.f k (n:Int) c (p:Int)) (senN c p n:Int):=sens_l0 hT hpl n 0 (by omega)
    have e2:Ev (fun k=>card_function_certificate.f k (n:Int) c (p:Int)) (cerN c n p c.size:Int):=by
      unfold card_function_certificate.f
      refine Ev.congr (fun k=>if_pos (by omega)) ?_
      have:=cert_l0 hT hpl c.size 0 (by omega)
      rw [shl_one (by omega),← hT.size]
      exact this
    refine Ev.step (fun k=>by rw [card_Measures.l0,if_pos (by omega),if_pos (by omega),if_pos (by omega),wrap_succ (by omega)]) ?_
    have hb:=sumS_bt hT hpl
    by_cases h:sumA c n p = true
    · rw [if_pos h] at hnx
      refine Ev.congr (fun k=>if_pos (hb.2 h)) ?_
      rw [pop_f ⟨p,by omega⟩]
      exact Ev.congr (fun k=>Option.bind_some _ _) (Ev.bind e1 (Ev.bind e2 hnx))
    · rw [if_neg h] at hnx
      exact Ev.congr (fun k=>if_neg (fun h2=>h (hb.1 h2))) (Ev.bind e1 (Ev.bind e2 hnx))
end
end Go.Proofs.Ythpahlkhiknofaa.P
namespace Go.Proofs.Ythpahlkhiknofaa.G
open Go
theorem fld65_0 (x y z u:Value) (w:World):(Instr.field 65 (.agg #[x,y,z,u]) 0).run Try.prog w = .ok x w:=by kernel_rfl
theorem fld65_1 (x y z u:Value) (w:World):(Instr.field 65 (.agg #[x,y,z,u]) 1).run Try.prog w = .ok y w:=by kernel_rfl
theorem fld65_2 (x y z u:Value) (w:World):(Instr.field 65 (.agg #[x,y,z,u]) 2).run Try.prog w = .ok z w:=by kernel_rfl
theorem fld65_3 (x y z u:Value) (w:World):(Instr.field 65 (.agg #[x,y,z,u]) 3).run Try.prog w = .ok u w:=by kernel_rfl
end Go.Proofs.Ythpahlkhiknofaa.G
set_option linter.unusedSectionVars false
namespace Go.Proofs.Ythpahlkhiknofaa.P
open Go Go.RowKit Go.Proofs.Ythpahlkhiknofaa.M Go.Proofs.Ythpahlkhiknofaa.G
open Go.Proofs.YthpahlkhiknofaaW.PrintWords Go.Proofs.YthpahlkhiknofaaW.PrintMore
theorem ev_Measures {c:ByteArray} (hc:c.size ≤ 40) (h:totB c = true):Ev (fun k=>card_Measures.f k c) (degI c (fnN c) c.size,senI c (fnN c) c.size,cerI c (fnN c) c.size,(cntN c c.size:Int),0):=by
 obtain ⟨m,hm,e⟩:=newT hc
 have hT:=tot_of hc h
 have:=hm h
 subst this
 unfold card_Measures.f
 rw [e,h]
 exact Ev.congr (fun k=>Option.bind_some _ _) (Ev.congr (fun k=>if_pos rfl) (Ev.bind (ev_fsum hT) (meas_l0 hT c.size 0 (by omega))))
end Go.Proofs.Ythpahlkhiknofaa.P
namespace Go.Proofs.Ythpahlkhiknofaa.G
open Go.RowKit Go.Proofs.YthpahlkhiknofaaW.PrintWords Go.Proofs.YthpahlkhiknofaaW.PrintLast Go.Proofs.YthpahlkhiknofaaW.PrintMore
set_option maxHeartbeats 8000000
set_option maxRecDepth 100000
attribute [local go_sem] max2_int min2_int max_two min_two max_three min_three max_four min_four   -- for this text's walks alone
def numnahlaw01_mod.f (a0:Int) (a1:Int):Option (Int):=if (IntKind.u64.wrap (a1)) = 0 then (none) else (some (wrap64 (Int.tmod (IntKind.u64.wrap (a0)) (IntKind.u64.wrap (a1)))))
theorem numnahlaw01_mod.calls (a0:Int) (a1:Int) (r:Int) (w:World) (h:numnahlaw01_mod.f a0 a1 = some r) :
  Calls Try.prog 27 #[.int .i64 a0,.int .i64 a1] w fun e w'=>e = .returned (.int .i64 r) ∧ Drawn0 w w':=by
 have H:(if (IntKind.u64.wrap (a1)) = 0 then (none) else (some (wrap64 (Int.tmod (IntKind.u64.wrap (a0)) (IntKind.u64.wrap (a1)))))) = some r:=h
 clear h
 by_cases c3:(IntKind.u64.wrap (a1)) = 0
 ·rw [if_pos c3] at H
  exact absurd H (by simp)
 rw [if_neg c3] at H
 have c3b0:((IntKind.u64.wrap (a1)) == 0) = false:=beq_eq_false_iff_ne.mpr c3
 have c3b1:((IntKind.u64.wrap (a1)) != 0) = true:=bne_iff_ne.mpr c3
 obtain rfl:=Option.some.inj H
 go_enter Try.func27,Try.ntmps27
 go_wp2
 go_ret
 exact ⟨by first | rfl | (simp;done) | (simp [*];done),by repeat (first | exact Drawn0.refl _ | apply Drawn0.step)⟩
def numnahlaw01_function.l0:Nat → ByteArray → Int → Int → List Int → Int → Option (ByteArray)
 | 0,_,_,_,_,_=>none
 | k + 1,x0,x1,x2,x7,x8=>if 0 ≤ x1 then (if x8 < (shl .i64 1 x1) then (if x8 < (x0.size:Int) then (if 0 ≤ x8 then (if x2 = 0 then (none) else (if 0 ≤ (Int.tmod (wrap64 (bt x0 x8)) x2) then (if (Int.tmod (wrap64 (bt x0 x8)) x2) < 3 then (if x7.length < 140737488355328 then (numnahlaw01_function.l0 k x0 x1 x2 (x7 ++ [bt (⟨#[48,49,45]⟩:ByteArray) (Int.tmod (wrap64 (bt x0 x8)) x2)]) (wrap64 (x8 + 1))) else (none)) else (none)) else (none))) else (none)) else (if 0 < 3 then (if x7.length < 140737488355328 then (numnahlaw01_function.l0 k x0 x1 x2 (x7 ++ [bt (⟨#[48,49,45]⟩:ByteArray) 0]) (wrap64 (x8 + 1))) else (none)) else (none))) else (some (strOfNums x7))) else (none)
def numnahlaw01_function.f (k:Nat) (a0:ByteArray) (a1:Int) (a2:Int):Option (ByteArray):=numnahlaw01_function.l0 k a0 a1 a2 ([]:List Int) 0
theorem numnahlaw01_function.mono_l:∀ k,(∀ y0 y1 y2 y3 y4,LeO (numnahlaw01_function.l0 k y0 y1 y2 y3 y4) (numnahlaw01_function.l0 (k + 1) y0 y1 y2 y3 y4))
 | 0=>fun _ _ _ _ _ r h=>by simp [numnahlaw01_function.l0] at h
 | k + 1=>by
  have ih0:=numnahlaw01_function.mono_l k
  intro y0 y1 y2 y3 y4
  unfold numnahlaw01_function.l0
  repeat' first
  | (with_reducible exact ih0 _ _ _ _ _)
  | (with_reducible exact LeO.refl _)
  | (with_reducible exact LeO.none _)
  | (with_reducible refine LeO.ite ?_ ?_)
  | (with_reducible refine LeO.bind ?_ (fun _=>?_))
  | exact ih0 _ _ _ _ _
  | exact LeO.none _
  | refine LeO.ite ?_ ?_
  | refine LeO.bind ?_ (fun _=>?_)
theorem numnahlaw01_function.mono:∀ a0 a1 a2 k,LeO (numnahlaw01_function.f k a0 a1 a2) (numnahlaw01_function.f (k + 1) a0 a1 a2):=by
 intro a0 a1 a2 k
 have ih0:=numnahlaw01_function.mono_l k
 unfold numnahlaw01_function.f
 repeat' first
   | (with_reducible exact ih0 _ _ _ _ _)
   | (with_reducible exact LeO.refl _)
   | (with_reducible exact LeO.none _)
   | (with_reducible refine LeO.ite ?_ ?_)
   | (with_reducible refine LeO.bind ?_ (fun _=>?_))
   | exact ih0 _ _ _ _ _
   | exact LeO.none _
   | refine LeO.ite ?_ ?_
   | refine LeO.bind ?_ (fun _=>?_)
theorem numnahlaw01_function.calls (k:Nat) (a0:ByteArray) (a1:Int) (a2:Int) (r:ByteArray) (w:World) (h:numnahlaw01_function.f k a0 a1 a2 = some r) :
  Calls Try.prog 28 #[.string a0,.int .i64 a1,.int .i64 a2] w fun e w'=>e = .returned (.string r) ∧ Below w.heap.size w w':=by
 have HB:=Aside0.mk (Below.refl w.heap.size w)
 have H:(numnahlaw01_function.l0 k a0 a1 a2 ([]:List Int) 0) = some r:=h
 clear h
 have H':=Aside0.mk H
 clear H
 go_enter Try.func28,Try.ntmps28
 go_wp2
 go_loopg [7,8] k (fun kq v7 v8 w'=>∃ (x7_1:List Int) (x8_1:Int),v8 = .int .i64 x8_1 ∧ Aside0 (numnahlaw01_function.l0 kq a0 a1 a2 x7_1 x8_1 = some r) ∧ Aside0 (kq ≤ k) ∧ Aside0 (Kd.R (Kd.int .u8) 5 w' w.heap.size (fun _=>True) v7 x7_1) ∧ Aside0 (Below w.heap.size w w'))
 case atStart=>exact ⟨(([]:List Int)),(0),(by first | rfl | (simp;done) | (simp [*];done)),H',⟨Nat.le_refl _⟩,⟨by first | exact Kd.R_nil _ _ _ _ _ | exact Kd.N_nil _ _ _ _ _ | exact Kd.V_nil _ _ _ _ _ | exact Kd.Q_nil _ _ _ _ _ | exact Kd.S_nil _ _ _ _ _⟩,⟨by repeat (first | (with_reducible first | exact HB.out | apply below_alloc | apply pw_below_drewN | apply below_drew1) | exact HB.out)⟩⟩
 case round =>
  clear H'
  try clear c2
  try clear p2
  obtain ⟨x7_1,x8_1,rfl,HA,HK1,HO_7,HB⟩:=hrel
  cases gk with
  | zero=>exact absurd HA.out (by simp [numnahlaw01_function.l0])
  | succ k1 =>
   have H:=HA.out
   clear HA
   simp only [numnahlaw01_function.l0] at H
   by_cases c4:0 ≤ a1
   case neg =>
    rw [if_neg c4] at H
    exact absurd H (by simp)
   rw [if_pos c4] at H
   have c4b0:=eq_true c4
   have c4b1:decide (0 ≤ a1) = true:=decide_eq_true c4
   clear c4
   obtain ⟨ji5,hji5⟩:∃ j_:Int,(shl .i64 1 a1) = j_:=⟨_,rfl⟩
   replace H:(if x8_1 < (ji5) then (if x8_1 < (a0.size:Int) then (if 0 ≤ x8_1 then (if a2 = 0 then (none) else (if 0 ≤ (Int.tmod (wrap64 (bt a0 x8_1)) a2) then (if (Int.tmod (wrap64 (bt a0 x8_1)) a2) < 3 then (if x7_1.length < 140737488355328 then (numnahlaw01_function.l0 k1 a0 a1 a2 (x7_1 ++ [bt (⟨#[48,49,45]⟩:ByteArray) (Int.tmod (wrap64 (bt a0 x8_1)) a2)]) (wrap64 (x8_1 + 1))) else (none)) else (none)) else (none))) else (none)) else (if 0 < 3 then (if x7_1.length < 140737488355328 then (numnahlaw01_function.l0 k1 a0 a1 a2 (x7_1 ++ [bt (⟨#[48,49,45]⟩:ByteArray) 0]) (wrap64 (x8_1 + 1))) else (none)) else (none))) else (some (strOfNums x7_1))) = some r:=by first | (rw [hji5] at H;exact H) | (simp only [hji5] at H ⊢;exact H)
   have hji5_:(IntKind.i64.wrap (1 * 2 ^ min a1.toNat 64)) = ji5:=hji5
   have hji5z:a1 ≤ 64 → (IntKind.i64.wrap (1 * 2 ^ a1.toNat)) = ji5:=shl_small hji5
   have hji5u:(IntKind.i64.wrap (2 ^ min a1.toNat 64)) = ji5:=by have h_:=hji5_;rw [Int.one_mul] at h_;exact h_
   have hji5v:a1 ≤ 64 → (IntKind.i64.wrap (2 ^ a1.toNat)) = ji5:=fun hle_=>by have h_:=hji5z hle_;rw [Int.one_mul] at h_;exact h_
   have hji5y:(wrap64 (1 * 2 ^ min a1.toNat 64)) = ji5:=(i64_w _).symm.trans hji5_
   have hji5x:a1 ≤ 64 → (wrap64 (1 * 2 ^ a1.toNat)) = ji5:=fun h_=>(i64_w _).symm.trans (hji5z h_)
   by_cases c6:x8_1 < (ji5)
   case neg =>
    rw [if_neg c6] at H
    have c6b0:decide (x8_1 < (ji5)) = false:=decide_eq_false c6
    clear c6
    obtain rfl:=Option.some.inj H
    have hcv21:=own_string (P:=Try.prog) Try.underlying42 Try.underlying5 Try.underlying9 (Kd.own_of_R HO_7.out)
    go_wp2
    go_ret
    exact ⟨by first | rfl | (simp [errW_none,errW_some] <;> rfl) | (simp only [← hji5];first | rfl | (simp [errW_none,errW_some] <;> rfl)) | (simp [*,errW_none,errW_some] <;> rfl),by repeat (first | (with_reducible first | exact HB.out | apply below_alloc | apply pw_below_drewN | apply below_drew1) | exact HB.out)⟩
   rw [if_pos c6] at H
   have c6b0:decide (x8_1 < (ji5)) = true:=decide_eq_true c6
   clear c6
   by_cases c7:x8_1 < (a0.size:Int)
   case neg =>
    rw [if_neg c7] at H
    have c7b0:decide (x8_1 < (a0.size:Int)) = false:=decide_eq_false c7
    clear c7
    by_cases c17:0 < 3
    case neg =>
     rw [if_neg c17] at H
     exact absurd H (by simp)
    rw [if_pos c17] at H
    have c17b0:decide (0 < 3) = true:=decide_eq_true c17
    clear c17
    by_cases c19:x7_1.length < 140737488355328
    case neg =>
     rw [if_neg c19] at H
     exact absurd H (by simp)
    rw [if_pos c19] at H
    have LMc19:=Aside0.mk c19
    clear c19
    obtain ⟨y217,hy217⟩:∃ y_:List Int,y_ = (x7_1 ++ [bt (⟨#[48,49,45]⟩:ByteArray) 0]):=⟨_,rfl⟩
    replace H:(numnahlaw01_function.l0 k1 a0 a1 a2 y217 (wrap64 (x8_1 + 1))) = some r:=by first | (rw [hy217];with_reducible exact H) | (have H2_:=(Option.bind_some _ _).symm.trans H;rw [hy217];with_reducible exact H2_) | (have H2_:=(Option.bind_some _ _).symm.trans H;with_reducible exact H2_) | with_reducible exact H | (rw [hy217];exact H) | exact H
    have Ny217:=Aside0.mk hy217
    clear hy217
    have H':=Aside0.mk H
    clear H
    have p18:0 ≤ (0:Int):=(by omega)
    have q18:0 < (3:Int):=(by omega)
    have hx18:=bt_at (⟨#[48,49,45]⟩:ByteArray) 0
    replace p18:=eq_true p18
    replace q18:=eq_true q18
    go_wp2_with (first | ((with_reducible refine gate_builtin (b:=.append) (xs:=#[.tmp 26,.tmp 29]) rfl ?_);at_builtin;refine Kd.R_append (Kd.int .u8) (w0:=w) w.heap.size rfl (.tmp 26) (.tmp 29) 42 5 (.int .u8 0) 1 rfl Try.underlying42 info5 rfl (by decide) (by omega) u7 x7_1 (bt (⟨#[48,49,45]⟩:ByteArray) 0) [.int .u8 (bt (⟨#[48,49,45]⟩:ByteArray) 0)] (fun _=>True) (fun _=>False) rfl rfl ?aP (fun _ hk=>hk.elim) ?aF ?aO ?aB ?aS ?aL ?_;(case aP=>exact rfl);(case aB=>exact (by repeat (first | (with_reducible first | exact HB.out | apply below_alloc | apply pw_below_drewN | apply below_drew1) | exact HB.out)));(case aF=>exact (fun _ _=>trivial));(case aO=>exact (by (with_reducible repeat (first | apply Kd.R_alloc | apply Kd.R_drewN | apply Kd.R_drew));exact HO_7.out));(case aS=>exact (below_size (by repeat (first | (with_reducible first | exact HB.out | apply below_alloc | apply pw_below_drewN | apply below_drew1) | exact HB.out))));(case aL=>have:=LMc19.out;omega);intro v218 w20 ho hb hg hat;rw [← Ny217.out] at ho;have n0_:=Aside0.mk (hb);have n1_:=Aside0.mk (ho);clear HB;clear HO_7;have HB:=n0_;have HO219:=n1_;clear n0_ n1_;clear ho hb hg hat))
    go_roundg k1
    case measure=>have:=HK1.out;omega
    case rel=>exact ⟨(y217),(wrap64 (x8_1 + 1)),(by first | rfl | (simp;done) | (simp [*];done)),H',⟨by have:=HK1.out;omega⟩,⟨by (with_reducible repeat (first | apply Kd.R_alloc | apply Kd.R_drewN | apply Kd.R_drew));exact HO219.out⟩,⟨by repeat (first | (with_reducible first | exact HB.out | apply below_alloc | apply pw_below_drewN | apply below_drew1) | exact HB.out)⟩⟩
   rw [if_pos c7] at H
   have c7b0:decide (x8_1 < (a0.size:Int)) = true:=decide_eq_true c7
   clear c7
   by_cases c8:0 ≤ x8_1
   case neg =>
    rw [if_neg c8] at H
    exact absurd H (by simp)
   rw [if_pos c8] at H
   have c8b0:decide (0 ≤ x8_1) = true:=decide_eq_true c8
   clear c8
   by_cases c10:a2 = 0
   ·rw [if_pos c10] at H
    exact absurd H (by simp)
   rw [if_neg c10] at H
   have c10b0:(a2 == 0) = false:=beq_eq_false_iff_ne.mpr c10
   have c10b1:(a2 != 0) = true:=bne_iff_ne.mpr c10
   obtain ⟨ji11,hji11⟩:∃ j_:Int,(Int.tmod (wrap64 (bt a0 x8_1)) a2) = j_:=⟨_,rfl⟩
   replace H:(if 0 ≤ (ji11) then (if (ji11) < 3 then (if x7_1.length < 140737488355328 then (numnahlaw01_function.l0 k1 a0 a1 a2 (x7_1 ++ [bt (⟨#[48,49,45]⟩:ByteArray) (ji11)]) (wrap64 (x8_1 + 1))) else (none)) else (none)) else (none)) = some r:=by first | (rw [hji11] at H;exact H) | (simp only [hji11] at H ⊢;exact H)
   by_cases c12:0 ≤ (ji11)
   case neg =>
    rw [if_neg c12] at H
    exact absurd H (by simp)
   rw [if_pos c12] at H
   have c12b0:decide (0 ≤ (ji11)) = true:=decide_eq_true c12
   clear c12
   by_cases c13:(ji11) < 3
   case neg =>
    rw [if_neg c13] at H
    exact absurd H (by simp)
   rw [if_pos c13] at H
   have c13b0:decide ((ji11) < 3) = true:=decide_eq_true c13
   clear c13
   by_cases c15:x7_1.length < 140737488355328
   case neg =>
    rw [if_neg c15] at H
    exact absurd H (by simp)
   rw [if_pos c15] at H
   have LMc15:=Aside0.mk c15
   clear c15
   obtain ⟨y214,hy214⟩:∃ y_:List Int,y_ = (x7_1 ++ [bt (⟨#[48,49,45]⟩:ByteArray) (ji11)]):=⟨_,rfl⟩
   replace H:(numnahlaw01_function.l0 k1 a0 a1 a2 y214 (wrap64 (x8_1 + 1))) = some r:=by first | (rw [hy214];with_reducible exact H) | (have H2_:=(Option.bind_some _ _).symm.trans H;rw [hy214];with_reducible exact H2_) | (have H2_:=(Option.bind_some _ _).symm.trans H;with_reducible exact H2_) | with_reducible exact H | (rw [hy214];exact H) | exact H
   have Ny214:=Aside0.mk hy214
   clear hy214
   have H':=Aside0.mk H
   clear H
   have p9:0 ≤ (x8_1:Int):=of_decide_eq_true (by first | (with_reducible assumption) | assumption)
   have q9:x8_1 < (a0.size:Int):=of_decide_eq_true (by first | (with_reducible assumption) | assumption)
   have hx9:=bt_at a0 x8_1
   replace p9:=eq_true p9
   replace q9:=eq_true q9
   have p14:0 ≤ ((ji11):Int):=of_decide_eq_true (by first | (with_reducible assumption) | assumption)
   have q14:(ji11) < (3:Int):=of_decide_eq_true (by first | (with_reducible assumption) | assumption)
   have hx14:=bt_at (⟨#[48,49,45]⟩:ByteArray) (ji11)
   replace p14:=eq_true p14
   replace q14:=eq_true q14
   go_wp2_with (first | ((with_reducible refine gate_builtin (b:=.append) (xs:=#[.tmp 26,.tmp 29]) rfl ?_);at_builtin;refine Kd.R_append (Kd.int .u8) (w0:=w) w.heap.size rfl (.tmp 26) (.tmp 29) 42 5 (.int .u8 0) 1 rfl Try.underlying42 info5 rfl (by decide) (by omega) u7 x7_1 (bt (⟨#[48,49,45]⟩:ByteArray) (ji11)) [.int .u8 (bt (⟨#[48,49,45]⟩:ByteArray) (ji11))] (fun _=>True) (fun _=>False) rfl rfl ?aP (fun _ hk=>hk.elim) ?aF ?aO ?aB ?aS ?aL ?_;(case aP=>exact rfl);(case aB=>exact (by repeat (first | (with_reducible first | exact HB.out | apply below_alloc | apply pw_below_drewN | apply below_drew1) | exact HB.out)));(case aF=>exact (fun _ _=>trivial));(case aO=>exact (by (with_reducible repeat (first | apply Kd.R_alloc | apply Kd.R_drewN | apply Kd.R_drew));exact HO_7.out));(case aS=>exact (below_size (by repeat (first | (with_reducible first | exact HB.out | apply below_alloc | apply pw_below_drewN | apply below_drew1) | exact HB.out))));(case aL=>have:=LMc15.out;omega);intro v215 w16 ho hb hg hat;rw [← Ny214.out] at ho;have n0_:=Aside0.mk (hb);have n1_:=Aside0.mk (ho);clear HB;clear HO_7;have HB:=n0_;have HO216:=n1_;clear n0_ n1_;clear ho hb hg hat))
   go_roundg k1
   case measure=>have:=HK1.out;omega
   case rel=>exact ⟨(y214),(wrap64 (x8_1 + 1)),(by first | rfl | (simp;done) | (simp [*];done)),H',⟨by have:=HK1.out;omega⟩,⟨by (with_reducible repeat (first | apply Kd.R_alloc | apply Kd.R_drewN | apply Kd.R_drew));exact HO216.out⟩,⟨by repeat (first | (with_reducible first | exact HB.out | apply below_alloc | apply pw_below_drewN | apply below_drew1) | exact HB.out)⟩⟩
end Go.Proofs.Ythpahlkhiknofaa.G
