/- Several texts, joined. -/
import Derived.Test.YthpahlkhiknofaaQT2
namespace Go.Proofs.Ythpahlkhiknofaa.G
end Go.Proofs.Ythpahlkhiknofaa.G
set_option linter.unusedVariables false
set_option linter.unusedSimpArgs false
namespace Go.Proofs.Ythpahlkhiknofaa.G
open Go.RowKit Go.Proofs.YthpahlkhiknofaaW.PrintWords Go.Proofs.YthpahlkhiknofaaW.PrintLast Go.Proofs.YthpahlkhiknofaaW.PrintMore
set_option maxHeartbeats 8000000
set_option maxRecDepth 100000
attribute [local go_sem] max2_int min2_int max_two min_two max_three min_three max_four min_four   -- for this text's walks alone
def numnahlaw01_short.f (a0:ByteArray):Option (ByteArray):=if 0 ≤ (mn (a0.size:Int) 40) then (if (mn (a0.size:Int) 40) ≤ (a0.size:Int) then (some (a0.extract 0 ((mn (a0.size:Int) 40):Int).toNat)) else (none)) else (none)
theorem numnahlaw01_short.calls (a0:ByteArray) (r:ByteArray) (w:World) (h:numnahlaw01_short.f a0 = some r) :
  Calls Try.prog 16 #[.string a0] w fun e w'=>e = .returned (.string r) ∧ Below w.heap.size w w':=by
 have HB:=Aside0.mk (Below.refl w.heap.size w)
 have H:(if 0 ≤ (mn (a0.size:Int) 40) then (if (mn (a0.size:Int) 40) ≤ (a0.size:Int) then (some (a0.extract 0 ((mn (a0.size:Int) 40):Int).toNat)) else (none)) else (none)) = some r:=h
 clear h
 obtain ⟨ji2,hji2⟩:∃ j_:Int,(mn (a0.size:Int) 40) = j_:=⟨_,rfl⟩
 replace H:(if 0 ≤ (ji2) then (if (ji2) ≤ (a0.size:Int) then (some (a0.extract 0 ((ji2):Int).toNat)) else (none)) else (none)) = some r:=by first | (rw [hji2] at H;exact H) | (simp only [hji2] at H ⊢;exact H)
 (try (have hji2h:ji2 ≤ 40:=by (rw [← hji2];unfold mn;(repeat' split) <;> omega)))
 (try (have hji2g:ji2 ≤ 64:=by omega))
 (try (have hji2l:0 ≤ ji2:=by (rw [← hji2];unfold mn;(repeat' split) <;> omega)))
 (try (have hji2m:0 ≤ ji2:=by omega))
 have hji2_:(if 40 < (a0.size:Int) then 40 else (a0.size:Int)) = ji2:=hji2
 by_cases c3:0 ≤ (ji2)
 case neg =>
  rw [if_neg c3] at H
  exact absurd H (by simp)
 rw [if_pos c3] at H
 have c3b0:=eq_true c3
 have c3b1:decide (0 ≤ (ji2)) = true:=decide_eq_true c3
 clear c3
 by_cases c4:(ji2) ≤ (a0.size:Int)
 case neg =>
  rw [if_neg c4] at H
  exact absurd H (by simp)
 rw [if_pos c4] at H
 have c4b0:=eq_true c4
 have c4b1:decide ((ji2) ≤ (a0.size:Int)) = true:=decide_eq_true c4
 clear c4
 obtain rfl:=Option.some.inj H
 go_enter Try.func16,Try.ntmps16
 go_wp2
 go_ret
 exact ⟨by first | rfl | (simp [errW_none,errW_some] <;> rfl) | (simp only [← hji2];first | rfl | (simp [errW_none,errW_some] <;> rfl)) | (simp [*,errW_none,errW_some] <;> rfl),by repeat (first | (with_reducible first | exact HB.out | apply below_alloc | apply pw_below_drewN | apply below_drew1) | exact HB.out)⟩
end Go.Proofs.Ythpahlkhiknofaa.G
set_option linter.unusedSectionVars false
namespace Go.Proofs.Ythpahlkhiknofaa.P
open Go Go.RowKit Go.Proofs.Ythpahlkhiknofaa.M Go.Proofs.Ythpahlkhiknofaa.G
open Go.Proofs.YthpahlkhiknofaaW.PrintWords Go.Proofs.YthpahlkhiknofaaW.PrintMore
theorem short_f (s:ByteArray):∃ c:ByteArray,c.size ≤ 40 ∧ numnahlaw01_short.f s = some c:=by
 unfold numnahlaw01_short.f
 refine ⟨s.extract 0 ((mn (s.size:Int) 40):Int).toNat,?_,?_⟩
 ·rw [ByteArray.size_extract]
  have:(mn (s.size:Int) 40) ≤ 40:=by unfold mn;split <;> omega
  omega
 ·rw [if_pos (by unfold mn;split <;> omega),if_pos (by unfold mn;split <;> omega)]
theorem ev_aw:Ev (fun _=>(numnahlaw01_awake.f).bind fun t=>some t) true:=Ev.now _
end Go.Proofs.Ythpahlkhiknofaa.P
namespace Go.Proofs.Ythpahlkhiknofaa.G
open Go.RowKit Go.Proofs.YthpahlkhiknofaaW.PrintWords Go.Proofs.YthpahlkhiknofaaW.PrintLast Go.Proofs.YthpahlkhiknofaaW.PrintMore
set_option maxHeartbeats 8000000
set_option maxRecDepth 100000
attribute [local go_sem] max2_int min2_int max_two min_two max_three min_three max_four min_four   -- for this text's walks alone
def card_within.f (a0:Int) (a1:Int) (a2:Int):Option (Bool):=if a0 ≥ a1 then (some (decide (a0 ≤ a2))) else (some false)
theorem card_within.calls (a0:Int) (a1:Int) (a2:Int) (r:Bool) (w:World) (h:card_within.f a0 a1 a2 = some r) :
  Calls Try.prog 61 #[.int .i64 a0,.int .i64 a1,.int .i64 a2] w fun e w'=>e = .returned (.bool r) ∧ Drawn0 w w':=by
 have H:(if a0 ≥ a1 then (some (decide (a0 ≤ a2))) else (some false)) = some r:=h
 clear h
 by_cases c4:a0 ≥ a1
 ·rw [if_pos c4] at H
  have c4b0:decide (a1 ≤ a0) = true:=decide_eq_true c4
  clear c4
  obtain rfl:=Option.some.inj H
  go_enter Try.func61,Try.ntmps61
  go_wp2
  go_ret
  exact ⟨by first | rfl | (simp;done) | (simp [*];done),by repeat (first | exact Drawn0.refl _ | apply Drawn0.step)⟩
 rw [if_neg c4] at H
 have c4b0:decide (a1 ≤ a0) = false:=decide_eq_false c4
 clear c4
 obtain rfl:=Option.some.inj H
 go_enter Try.func61,Try.ntmps61
 go_wp2
 go_ret
 exact ⟨by first | rfl | (simp;done) | (simp [*];done),by repeat (first | exact Drawn0.refl _ | apply Drawn0.step)⟩
end Go.Proofs.Ythpahlkhiknofaa.G
namespace Go.Proofs.Ythpahlkhiknofaa.G
open Go Go.RowKit Go.Proofs.YthpahlkhiknofaaW.PrintWords
def bits_Len.f (a0:Int):Option Int:=if 0 ≤ a0 ∧ a0 ≤ 18446744073709551615 then some (Lib.bitLen a0.toNat:Int) else none
theorem bits_Len.calls (a0:Int) (r:Int) (w:World) (h:bits_Len.f a0 = some r):Calls Try.prog 94 #[.int .u64 a0] w fun e w'=>e = .returned (.int .i64 r) ∧ Below w.heap.size w w':=by
 unfold bits_Len.f at h
 by_cases hb:0 ≤ a0 ∧ a0 ≤ 18446744073709551615
 case neg =>
  rw [if_neg hb] at h;cases h
 rw [if_pos hb] at h
 obtain rfl:=Option.some.inj h
 refine (Try.bits_Len a0 w hb.1 hb.2).mono fun e w' he=>?_
 obtain ⟨rfl,rfl⟩:=he
 exact ⟨rfl,Below.refl _ _⟩
end Go.Proofs.Ythpahlkhiknofaa.G
namespace Go.Proofs.Ythpahlkhiknofaa.G
open Go.RowKit Go.Proofs.YthpahlkhiknofaaW.PrintWords Go.Proofs.YthpahlkhiknofaaW.PrintLast Go.Proofs.YthpahlkhiknofaaW.PrintMore
set_option maxHeartbeats 8000000
set_option maxRecDepth 100000
attribute [local go_sem] max2_int min2_int max_two min_two max_three min_three max_four min_four   -- for this text's walks alone
def card_newFunction_1.f (a0:Int):Option (Bool):=if a0 = 48 then (some false) else (if a0 = 49 then (some false) else (some (a0 != 45)))
theorem card_newFunction_1.calls (a0:Int) (r:Bool) (w:World) (h:card_newFunction_1.f a0 = some r) :
  Calls Try.prog 96 #[.int .i32 a0] w fun e w'=>e = .returned (.bool r) ∧ Drawn0 w w':=by
 have H:(if a0 = 48 then (some false) else (if a0 = 49 then (some false) else (some (a0 != 45)))) = some r:=h
 clear h
 by_cases c2:a0 = 48
 ·rw [if_pos c2] at H
  have c2b0:(a0 == 48) = true:=beq_iff_eq.mpr c2
  have c2b1:(a0 != 48) = false:=bne_eq_false_iff_eq.mpr c2
  clear c2
  obtain rfl:=Option.some.inj H
  go_enter Try.func96,Try.ntmps96
  go_wp2
  go_ret
  exact ⟨by first | rfl | (simp;done) | (simp [*];done),by repeat (first | exact Drawn0.refl _ | apply Drawn0.step)⟩
 rw [if_neg c2] at H
 have c2b0:(a0 == 48) = false:=beq_eq_false_iff_ne.mpr c2
 have c2b1:(a0 != 48) = true:=bne_iff_ne.mpr c2
 by_cases c3:a0 = 49
 case neg =>
  rw [if_neg c3] at H
  have c3b0:(a0 == 49) = false:=beq_eq_false_iff_ne.mpr c3
  have c3b1:(a0 != 49) = true:=bne_iff_ne.mpr c3
  obtain rfl:=Option.some.inj H
  go_enter Try.func96,Try.ntmps96
  go_wp2
  go_ret
  exact ⟨by first | rfl | (simp;done) | (simp [*];done),by repeat (first | exact Drawn0.refl _ | apply Drawn0.step)⟩
 rw [if_pos c3] at H
 have c3b0:(a0 == 49) = true:=beq_iff_eq.mpr c3
 have c3b1:(a0 != 49) = false:=bne_eq_false_iff_eq.mpr c3
 clear c3
 obtain rfl:=Option.some.inj H
 go_enter Try.func96,Try.ntmps96
 go_wp2
 go_ret
 exact ⟨by first | rfl | (simp;done) | (simp [*];done),by repeat (first | exact Drawn0.refl _ | apply Drawn0.step)⟩
def card_newFunction_1.Pure:Prop:=∀ (a0:Int),(Lit.int .i32 a0).wf = true → card_newFunction_1.f a0 = some true
theorem card_newFunction_1.walk (P:card_newFunction_1.Pure) (a0:Int) (w:World) (w0:(Lit.int .i32 a0).wf = true) :
  Calls Try.prog 96 #[.int .i32 a0] w fun e w'=>e = .returned (.bool true) ∧ Below w.heap.size w w':=by
 have h:=P a0 w0
 refine (card_newFunction_1.calls a0 true w h).mono ?_
 rintro e w' ⟨rfl,hd⟩
 exact ⟨rfl,hd.below⟩
end Go.Proofs.Ythpahlkhiknofaa.G
namespace Go.Proofs.Ythpahlkhiknofaa.P
open Go Go.RowKit Go.Proofs.YthpahlkhiknofaaW.PrintWords
def badN (x:Nat):Bool:=!(decide (x = 48) || decide (x = 49) || decide (x = 45))
theorem get_bt {s:ByteArray} {i:Nat} (h:i < s.size):(s.get! i).toNat = (bt s (i:Int)).toNat:=by
 rw [bt_get h,Int.toNat_natCast]
 congr 1
 show s.data[i]! = s.data[i]
 rw [getElem!_pos]
theorem decode_low {s:ByteArray} {i:Nat} (h:(s.get! i).toNat < 128):Utf8.decode s i = ((s.get! i).toNat,1):=by
 unfold Utf8.decode
 simp only [Nat.add_zero]
 rw [if_pos h]
theorem decode_high {s:ByteArray} {i:Nat} (h:¬ (s.get! i).toNat < 128):128 ≤ (Utf8.decode s i).1:=by
 unfold Utf8.decode
 simp only [Nat.add_zero]
 rw [if_neg h]
 have e:128 ≤ Utf8.runeError:=by decide
 split
 ·split
  ·assumption
  exact e
 split
 ·split
  ·rename_i h2
   rw [Bool.and_eq_true,decide_eq_true_eq] at h2
   show 128 ≤ _
   have:=h2.1
   simp only at this ⊢
   omega
  exact e
 split
 ·split
  ·rename_i h2
   rw [Bool.and_eq_true,decide_eq_true_eq] at h2
   have:=h2.1
   simp only at this ⊢
   omega
  exact e
 exact e
theorem idx_bad (s:ByteArray):∀ f pos,s.size - pos ≤ f → decide (0 ≤ Lib.idxFuncFrom badN true s f pos) = !allF (isC s) (s.size - pos) pos
 | 0,pos,h=>by
  have e:s.size - pos = 0:=by omega
  rw [e];rfl
 | f + 1,pos,h=>by
  rw [Lib.idxFuncFrom]
  by_cases hp:pos < s.size
  case neg =>
   rw [if_neg hp]
   have e:s.size - pos = 0:=by omega
   rw [e];rfl
  rw [if_pos hp]
  obtain ⟨d,hd⟩:∃ d,s.size - pos = d + 1:=⟨s.size - pos - 1,by omega⟩
  have hd2:s.size - (pos + 1) = d:=by omega
  rw [hd,allF]
  have hg:=get_bt hp
  have hr:=bt_range s (pos:Int)
  by_cases hl:(s.get! pos).toNat < 128
  case neg =>
   have h2:=decode_high hl
   have hb:badN (Utf8.decode s pos).1 = true:=by
    unfold badN
    rw [decide_eq_false (by omega),decide_eq_false (by omega),decide_eq_false (by omega)];rfl
   rw [hb,if_pos rfl]
   have hc':isC s pos = false:=by
    unfold isC
    exact decide_eq_false (by omega)
   rw [hc',Bool.false_and]
   exact decide_eq_true (by omega)
  rw [decode_low hl]
  have hb:badN (s.get! pos).toNat = !isC s pos:=by
   unfold badN isC
   rw [hg]
   congr 1
   rw [Bool.eq_iff_iff]
   simp only [Bool.or_eq_true,decide_eq_true_eq]
   omega
  simp only [hb]
  by_cases hc:isC s pos = true
  ·rw [hc,if_neg (by decide),Bool.true_and,idx_bad s f (pos + 1) (by omega),hd2]
  have hc':isC s pos = false:=by simpa using hc
  rw [hc',if_pos (by decide),Bool.false_and]
  exact decide_eq_true (by omega)
end Go.Proofs.Ythpahlkhiknofaa.P
namespace Go.Proofs.Ythpahlkhiknofaa.G
open Go Go.RowKit Go.Proofs.YthpahlkhiknofaaW.PrintWords
def contains96.f (a0:ByteArray):Option Bool:=some (!P.okC a0)
theorem contains96.calls (a0:ByteArray) (r:Bool) (w:World) (h:contains96.f a0 = some r):Calls Try.prog 95 #[.string a0,.func (.func 96) #[] #[]] w fun e w'=>e = .returned (.bool r) ∧ Below w.heap.size w w':=by
 obtain rfl:=Option.some.inj h
 refine (Try.strings_ContainsFunc_grows 96 #[] (enters_of Try.func96 (by kernel_rfl) rfl) P.badN a0 w (fun W x _ _=>?_)).mono fun e w' he=>?_
 ·refine (card_newFunction_1.calls (x:Int) (P.badN x) W ?_).mono fun e w' he=>⟨he.1,he.2.below⟩
  unfold card_newFunction_1.f P.badN
  by_cases h1:x = 48
  ·subst h1;rfl
  by_cases h2:x = 49
  ·subst h2;rfl
  rw [if_neg (by omega),if_neg (by omega),decide_eq_false h1,decide_eq_false h2]
  congr 1
  by_cases h3:x = 45
  ·subst h3;rfl
  rw [decide_eq_false h3]
  have:(x:Int) ≠ 45:=by omega
  simpa using this
 obtain ⟨rfl,hb⟩:=he
 refine ⟨?_,hb⟩
 have:=P.idx_bad a0 a0.size 0 (by omega)
 unfold Lib.idxFunc
 rw [this];rfl
end Go.Proofs.Ythpahlkhiknofaa.G
namespace Go.Proofs.Ythpahlkhiknofaa.G
open Go.RowKit Go.Proofs.YthpahlkhiknofaaW.PrintWords Go.Proofs.YthpahlkhiknofaaW.PrintLast Go.Proofs.YthpahlkhiknofaaW.PrintMore
set_option maxHeartbeats 8000000
set_option maxRecDepth 100000
attribute [local go_sem] max2_int min2_int max_two min_two max_three min_three max_four min_four   -- for this text's walks alone
def card_newFunction.f (a0:ByteArray):Option (Int × ByteArray × Bool):=(bits_Len.f (IntKind.u64.wrap ((a0.size:Int)))).bind fun t110=>((card_within.f (wrap64 (t110 - 1)) 1 5).bind fun t111=>(if t111 = true then (if 0 ≤ (wrap64 (t110 - 1)) then (if (a0.size:Int) = (shl .i64 1 (wrap64 (t110 - 1))) then ((contains96.f a0).bind fun t112=>(some (wrap64 (t110 - 1),a0,!t112))) else (some (wrap64 (t110 - 1),a0,false))) else (none)) else (some (wrap64 (t110 - 1),a0,false))))
theorem card_newFunction.calls (a0:ByteArray) (r1:Int) (r2:ByteArray) (r3:Bool) (w:World) (h:card_newFunction.f a0 = some (r1,r2,r3)) :
  Calls Try.prog 65 #[.string a0] w fun e w'=>e = .returned (.tuple #[.agg #[.int .i64 r1,.string r2],.bool r3]) ∧ Below w.heap.size w w':=by
 have hu81:=Try.underlying81
 have HB:=Aside0.mk (Below.refl w.heap.size w)
 have H:((bits_Len.f (IntKind.u64.wrap ((a0.size:Int)))).bind fun t110=>((card_within.f (wrap64 (t110 - 1)) 1 5).bind fun t111=>(if t111 = true then (if 0 ≤ (wrap64 (t110 - 1)) then (if (a0.size:Int) = (shl .i64 1 (wrap64 (t110 - 1))) then ((contains96.f a0).bind fun t112=>(some (wrap64 (t110 - 1),a0,!t112))) else (some (wrap64 (t110 - 1),a0,false))) else (none)) else (some (wrap64 (t110 - 1),a0,false))))) = some (r1,r2,r3):=h
 clear h
 replace H:=Option.bind_eq_some_iff.mp H
 obtain ⟨t110,A20,H⟩:=H
 replace H:((card_within.f (wrap64 (t110 - 1)) 1 5).bind fun t111=>(if t111 = true then (if 0 ≤ (wrap64 (t110 - 1)) then (if (a0.size:Int) = (shl .i64 1 (wrap64 (t110 - 1))) then ((contains96.f a0).bind fun t112=>(some (wrap64 (t110 - 1),a0,!t112))) else (some (wrap64 (t110 - 1),a0,false))) else (none)) else (some (wrap64 (t110 - 1),a0,false)))) = some (r1,r2,r3):=H
 have A2:=Aside0.mk A20
 clear A20
 replace H:=Option.bind_eq_some_iff.mp H
 obtain ⟨t111,A30,H⟩:=H
 replace H:(if t111 = true then (if 0 ≤ (wrap64 (t110 - 1)) then (if (a0.size:Int) = (shl .i64 1 (wrap64 (t110 - 1))) then ((contains96.f a0).bind fun t112=>(some (wrap64 (t110 - 1),a0,!t112))) else (some (wrap64 (t110 - 1),a0,false))) else (none)) else (some (wrap64 (t110 - 1),a0,false))) = some (r1,r2,r3):=H
 have A3:=Aside0.mk A30
 clear A30
 by_cases c4:t111 = true
 case neg =>
  replace c4:=Bool.eq_false_iff.mpr c4
  subst c4
  have H1:(some (wrap64 (t110 - 1),a0,false)) = some (r1,r2,r3):=by rw [if_neg (show ¬ (false = true) by decide)] at H;exact H
  clear H
  have H:=H1
  clear H1
  simp only [Option.some.injEq,Prod.mk.injEq] at H
  obtain ⟨rfl,rfl,rfl⟩:=H
  go_enter Try.func65,Try.ntmps65
  go_wp2_with (first | ((with_reducible refine gate_dst (N:=2) rfl ?_);(try (refine gate_guard (by rfl) ?_;dsimp only));refine box_event ?hg (N:=2) ?hd (cs:=#[.int .i64 0,.string (⟨#[]⟩:ByteArray)]) (t:=81) ?hr ?_;(case hd=>rfl);(case hg=>rfl);(case hr=>first | (go_simp;done) | (go_simp;rfl));intro gb109 hg w17 hbox hb;have n0_:=Aside0.mk (below_step (by repeat (first | (with_reducible first | exact HB.out | apply below_alloc | apply pw_below_drewN | apply below_drew1) | exact HB.out)) hb);have n1_:=Aside0.mk (hbox);have n2_:=Aside0.mk ((by rw [hg];exact (below_size (by repeat (first | (with_reducible first | exact HB.out | apply below_alloc | apply pw_below_drewN | apply below_drew1) | exact HB.out))):w.heap.size ≤ gb109));have n3_:=Aside0.mk ((by rw [hg];exact (below_size (by repeat (first | (with_reducible first | exact HB.out | apply below_alloc | apply pw_below_drewN | apply below_drew1) | exact HB.out))):w.heap.size ≤ gb109));clear HB;have HB:=n0_;have BK109:=n1_;have GW109:=n2_;have GE109:=n3_;clear n0_ n1_ n2_ n3_;clear hb hbox hg) | ((with_reducible refine gate_callee (f:=94) rfl ?_);refine goesL_ (some 9) rfl rfl Try.func94 (by kernel_rfl) rfl #[.int .u64 (IntKind.u64.wrap ((a0.size:Int)))] rfl (by (try simp only [List.map_toArray,List.map_cons,List.map_nil]);first | done | rfl | (simp only [List.length_drop,List.length_take];rfl)) ?_;(with_reducible refine (bits_Len.calls (IntKind.u64.wrap ((a0.size:Int))) t110 _ A2.out).mono ?_);rintro e w18 ⟨rfl,hb⟩;refine ⟨_,rfl,?_⟩;have n0_:=Aside0.mk (blk_below (g:=gb109) (o:=.cells #[.int .i64 0,.string (⟨#[]⟩:ByteArray)] 81 (0,0)) (by (with_reducible repeat (first | refine blk_drewN ?_ _ | refine blk_drew ?_ | refine blk_alloc ?_ _));exact BK109.out) hb);have n1_:=Aside0.mk (below_step (by repeat (first | (with_reducible first | exact HB.out | apply below_alloc | apply pw_below_drewN | apply below_drew1 | refine below_set ?_ GE109.out) | exact HB.out)) hb);clear BK109;clear HB;have BK109:=n0_;have HB:=n1_;clear n0_ n1_;(try clear hb)) | ((with_reducible refine gate_callee (f:=61) rfl ?_);refine goesL_ (some 12) rfl rfl Try.func61 (by kernel_rfl) rfl #[.int .i64 (wrap64 (t110 - 1)),.int .i64 1,.int .i64 5] rfl (by (try simp only [List.map_toArray,List.map_cons,List.map_nil]);first | done | rfl | (simp only [List.length_drop,List.length_take];rfl)) ?_;(with_reducible refine (card_within.calls (wrap64 (t110 - 1)) 1 5 false _ A3.out).mono ?_);rintro e w' ⟨rfl,⟨nd,rfl⟩⟩;refine ⟨_,rfl,?_⟩;(try (rw [drewN_self w18];generalize hq_:World.drewN w18 _ = w18;have n0_:Aside0 (w18.heap[gb109]? = some (.cells #[.int .i64 0,.string (⟨#[]⟩:ByteArray)] 81 (0,0))):=⟨by rw [← hq_];exact (by (with_reducible repeat (first | refine blk_drewN ?_ _ | refine blk_drew ?_ | refine blk_alloc ?_ _));exact BK109.out)⟩;have n1_:Aside0 (Below w.heap.size w w18):=⟨by rw [← hq_];exact (by repeat (first | (with_reducible first | exact HB.out | apply below_alloc | apply pw_below_drewN | apply below_drew1 | refine below_set ?_ GE109.out) | exact HB.out))⟩;clear BK109 HB hq_;have BK109:=n0_;have HB:=n1_;clear n0_ n1_));have hcz19_0:w18.cell? ⟨gb109,0,none⟩ = some (.int .i64 0):=(blk_cell BK109.out 0).trans rfl;have hcz19_1:w18.cell? ⟨gb109,1,none⟩ = some (.string (⟨#[]⟩:ByteArray)):=(blk_cell BK109.out 1).trans rfl;have hfz19_0:=blk_frozen BK109.out 0;have hfz19_1:=blk_frozen BK109.out 1))
  refine bodyPost_ret (results_ct rfl _ _ gb109 81 #[.int .i64 (wrap64 (t110 - 1)),.string a0] (0,0) _ rfl (by (with_reducible repeat (first | refine blk_drewN ?_ _ | refine blk_drew ?_ | refine blk_alloc ?_ _));refine blk_put (cs:=#[.int .i64 (wrap64 (t110 - 1)),.string (⟨#[]⟩:ByteArray)]) ?_ 1 _ rfl;(with_reducible repeat (first | refine blk_drewN ?_ _ | refine blk_drew ?_ | refine blk_alloc ?_ _));refine blk_put (cs:=#[.int .i64 0,.string (⟨#[]⟩:ByteArray)]) ?_ 0 _ rfl;(with_reducible repeat (first | refine blk_drewN ?_ _ | refine blk_drew ?_ | refine blk_alloc ?_ _));exact BK109.out) Try.underlying81 rfl (by kernel_rfl)) rfl ?_
  exact ⟨by first | rfl | (simp [errW_none,errW_some] <;> rfl) | (simp [*,errW_none,errW_some] <;> rfl),by repeat (first | (with_reducible first | exact HB.out | apply below_alloc | apply pw_below_drewN | apply below_drew1 | refine below_set ?_ GE109.out) | exact HB.out)⟩
 subst c4
 have H1:(if 0 ≤ (wrap64 (t110 - 1)) then (if (a0.size:Int) = (shl .i64 1 (wrap64 (t110 - 1))) then ((contains96.f a0).bind fun t112=>(some (wrap64 (t110 - 1),a0,!t112))) else (some (wrap64 (t110 - 1),a0,false))) else (none)) = some (r1,r2,r3):=by rw [if_pos rfl] at H;exact H
 clear H
 have H:=H1
 clear H1
 obtain ⟨ji5,hji5⟩:∃ j_:Int,(wrap64 (t110 - 1)) = j_:=⟨_,rfl⟩
 replace H:(if 0 ≤ (ji5) then (if (a0.size:Int) = (shl .i64 1 (ji5)) then ((contains96.f a0).bind fun t112=>(some (ji5,a0,!t112))) else (some (ji5,a0,false))) else (none)) = some (r1,r2,r3):=by first | (rw [hji5] at H;exact H) | (simp only [hji5] at H ⊢;exact H)
 (try rw [hji5] at A2)
 (try rw [hji5] at A3)
 have hji5w:(IntKind.i64.wrap (t110 - 1)) = ji5:=(i64_w _).trans hji5
 by_cases c6:0 ≤ (ji5)
 case neg =>
  rw [if_neg c6] at H
  exact absurd H (by simp)
 rw [if_pos c6] at H
 have c6b0:=eq_true c6
 have c6b1:decide (0 ≤ (ji5)) = true:=decide_eq_true c6
 clear c6
 obtain ⟨ji7,hji7⟩:∃ j_:Int,(shl .i64 1 (ji5)) = j_:=⟨_,rfl⟩
 replace H:(if (a0.size:Int) = (ji7) then ((contains96.f a0).bind fun t112=>(some (ji5,a0,!t112))) else (some (ji5,a0,false))) = some (r1,r2,r3):=by first | (rw [hji7] at H;exact H) | (simp only [hji7] at H ⊢;exact H)
 (try rw [hji7] at A2)
 (try rw [hji7] at A3)
 have hji7_:(IntKind.i64.wrap (1 * 2 ^ min (ji5).toNat 64)) = ji7:=hji7
 have hji7z:(ji5) ≤ 64 → (IntKind.i64.wrap (1 * 2 ^ (ji5).toNat)) = ji7:=shl_small hji7
 have hji7u:(IntKind.i64.wrap (2 ^ min (ji5).toNat 64)) = ji7:=by have h_:=hji7_;rw [Int.one_mul] at h_;exact h_
 have hji7v:(ji5) ≤ 64 → (IntKind.i64.wrap (2 ^ (ji5).toNat)) = ji7:=fun hle_=>by have h_:=hji7z hle_;rw [Int.one_mul] at h_;exact h_
 have hji7y:(wrap64 (1 * 2 ^ min (ji5).toNat 64)) = ji7:=(i64_w _).symm.trans hji7_
 have hji7x:(ji5) ≤ 64 → (wrap64 (1 * 2 ^ (ji5).toNat)) = ji7:=fun h_=>(i64_w _).symm.trans (hji7z h_)
 by_cases c8:(a0.size:Int) = (ji7)
 case neg =>
  rw [if_neg c8] at H
  have c8b0:((a0.size:Int) == (ji7)) = false:=beq_eq_false_iff_ne.mpr c8
  have c8b1:((a0.size:Int) != (ji7)) = true:=bne_iff_ne.mpr c8
  simp only [Option.some.injEq,Prod.mk.injEq] at H
  obtain ⟨rfl,rfl,rfl⟩:=H
  go_enter Try.func65,Try.ntmps65
  go_wp2_with (first | ((with_reducible refine gate_dst (N:=2) rfl ?_);(try (refine gate_guard (by rfl) ?_;dsimp only));refine box_event ?hg (N:=2) ?hd (cs:=#[.int .i64 0,.string (⟨#[]⟩:ByteArray)]) (t:=81) ?hr ?_;(case hd=>rfl);(case hg=>rfl);(case hr=>first | (go_simp;done) | (go_simp;rfl));intro gb109 hg w14 hbox hb;have n0_:=Aside0.mk (below_step (by repeat (first | (with_reducible first | exact HB.out | apply below_alloc | apply pw_below_drewN | apply below_drew1) | exact HB.out)) hb);have n1_:=Aside0.mk (hbox);have n2_:=Aside0.mk ((by rw [hg];exact (below_size (by repeat (first | (with_reducible first | exact HB.out | apply below_alloc | apply pw_below_drewN | apply below_drew1) | exact HB.out))):w.heap.size ≤ gb109));have n3_:=Aside0.mk ((by rw [hg];exact (below_size (by repeat (first | (with_reducible first | exact HB.out | apply below_alloc | apply pw_below_drewN | apply below_drew1) | exact HB.out))):w.heap.size ≤ gb109));clear HB;have HB:=n0_;have BK109:=n1_;have GW109:=n2_;have GE109:=n3_;clear n0_ n1_ n2_ n3_;clear hb hbox hg) | ((with_reducible refine gate_callee (f:=94) rfl ?_);refine goesL_ (some 9) rfl rfl Try.func94 (by kernel_rfl) rfl #[.int .u64 (IntKind.u64.wrap ((a0.size:Int)))] rfl (by (try simp only [List.map_toArray,List.map_cons,List.map_nil]);first | done | rfl | (simp only [List.length_drop,List.length_take];rfl)) ?_;(with_reducible refine (bits_Len.calls (IntKind.u64.wrap ((a0.size:Int))) t110 _ A2.out).mono ?_);rintro e w15 ⟨rfl,hb⟩;refine ⟨_,rfl,?_⟩;have n0_:=Aside0.mk (blk_below (g:=gb109) (o:=.cells #[.int .i64 0,.string (⟨#[]⟩:ByteArray)] 81 (0,0)) (by (with_reducible repeat (first | refine blk_drewN ?_ _ | refine blk_drew ?_ | refine blk_alloc ?_ _));exact BK109.out) hb);have n1_:=Aside0.mk (below_step (by repeat (first | (with_reducible first | exact HB.out | apply below_alloc | apply pw_below_drewN | apply below_drew1 | refine below_set ?_ GE109.out) | exact HB.out)) hb);clear BK109;clear HB;have BK109:=n0_;have HB:=n1_;clear n0_ n1_;(try clear hb)) | ((with_reducible refine gate_callee (f:=61) rfl ?_);refine goesL_ (some 12) rfl rfl Try.func61 (by kernel_rfl) rfl #[.int .i64 ji5,.int .i64 1,.int .i64 5] rfl (by (try simp only [List.map_toArray,List.map_cons,List.map_nil]);first | done | (simp only [hji5];rfl) | rfl | (simp only [List.length_drop,List.length_take];rfl)) ?_;(with_reducible refine (card_within.calls ji5 1 5 true _ A3.out).mono ?_);rintro e w' ⟨rfl,⟨nd,rfl⟩⟩;refine ⟨_,rfl,?_⟩;(try (rw [drewN_self w15];generalize hq_:World.drewN w15 _ = w15;have n0_:Aside0 (w15.heap[gb109]? = some (.cells #[.int .i64 0,.string (⟨#[]⟩:ByteArray)] 81 (0,0))):=⟨by rw [← hq_];exact (by (with_reducible repeat (first | refine blk_drewN ?_ _ | refine blk_drew ?_ | refine blk_alloc ?_ _));exact BK109.out)⟩;have n1_:Aside0 (Below w.heap.size w w15):=⟨by rw [← hq_];exact (by repeat (first | (with_reducible first | exact HB.out | apply below_alloc | apply pw_below_drewN | apply below_drew1 | refine below_set ?_ GE109.out) | exact HB.out))⟩;clear BK109 HB hq_;have BK109:=n0_;have HB:=n1_;clear n0_ n1_));have hcz16_0:w15.cell? ⟨gb109,0,none⟩ = some (.int .i64 0):=(blk_cell BK109.out 0).trans rfl;have hcz16_1:w15.cell? ⟨gb109,1,none⟩ = some (.string (⟨#[]⟩:ByteArray)):=(blk_cell BK109.out 1).trans rfl;have hfz16_0:=blk_frozen BK109.out 0;have hfz16_1:=blk_frozen BK109.out 1))
  refine bodyPost_ret (results_ct rfl _ _ gb109 81 #[.int .i64 ji5,.string a0] (0,0) _ rfl (by (with_reducible repeat (first | refine blk_drewN ?_ _ | refine blk_drew ?_ | refine blk_alloc ?_ _));refine blk_put (cs:=#[.int .i64 ji5,.string (⟨#[]⟩:ByteArray)]) ?_ 1 _ rfl;(with_reducible repeat (first | refine blk_drewN ?_ _ | refine blk_drew ?_ | refine blk_alloc ?_ _));refine blk_put (cs:=#[.int .i64 0,.string (⟨#[]⟩:ByteArray)]) ?_ 0 _ rfl;(with_reducible repeat (first | refine blk_drewN ?_ _ | refine blk_drew ?_ | refine blk_alloc ?_ _));exact BK109.out) Try.underlying81 rfl (by kernel_rfl)) rfl ?_
  exact ⟨by first | rfl | (simp [errW_none,errW_some] <;> rfl) | (simp only [← hji5,← hji7];first | rfl | (simp [errW_none,errW_some] <;> rfl)) | (simp [*,errW_none,errW_some] <;> rfl),by repeat (first | (with_reducible first | exact HB.out | apply below_alloc | apply pw_below_drewN | apply below_drew1 | refine below_set ?_ GE109.out) | exact HB.out)⟩
 rw [if_pos c8] at H
 have c8b0:((a0.size:Int) == (ji7)) = true:=beq_iff_eq.mpr c8
 have c8b1:((a0.size:Int) != (ji7)) = false:=bne_eq_false_iff_eq.mpr c8
 clear c8
 replace H:=Option.bind_eq_some_iff.mp H
 obtain ⟨t112,A90,H⟩:=H
 replace H:(some (ji5,a0,!t112)) = some (r1,r2,r3):=H
 have A9:=Aside0.mk A90
 clear A90
 simp only [Option.some.injEq,Prod.mk.injEq] at H
 obtain ⟨rfl,rfl,rfl⟩:=H
 go_enter Try.func65,Try.ntmps65
 go_wp2_with (first | ((with_reducible refine gate_dst (N:=2) rfl ?_);(try (refine gate_guard (by rfl) ?_;dsimp only));refine box_event ?hg (N:=2) ?hd (cs:=#[.int .i64 0,.string (⟨#[]⟩:ByteArray)]) (t:=81) ?hr ?_;(case hd=>rfl);(case hg=>rfl);(case hr=>first | (go_simp;done) | (go_simp;rfl));intro gb109 hg w10 hbox hb;have n0_:=Aside0.mk (below_step (by repeat (first | (with_reducible first | exact HB.out | apply below_alloc | apply pw_below_drewN | apply below_drew1) | exact HB.out)) hb);have n1_:=Aside0.mk (hbox);have n2_:=Aside0.mk ((by rw [hg];exact (below_size (by repeat (first | (with_reducible first | exact HB.out | apply below_alloc | apply pw_below_drewN | apply below_drew1) | exact HB.out))):w.heap.size ≤ gb109));have n3_:=Aside0.mk ((by rw [hg];exact (below_size (by repeat (first | (with_reducible first | exact HB.out | apply below_alloc | apply pw_below_drewN | apply below_drew1) | exact HB.out))):w.heap.size ≤ gb109));clear HB;have HB:=n0_;have BK109:=n1_;have GW109:=n2_;have GE109:=n3_;clear n0_ n1_ n2_ n3_;clear hb hbox hg) | ((with_reducible refine gate_callee (f:=94) rfl ?_);refine goesL_ (some 9) rfl rfl Try.func94 (by kernel_rfl) rfl #[.int .u64 (IntKind.u64.wrap ((a0.size:Int)))] rfl (by (try simp only [List.map_toArray,List.map_cons,List.map_nil]);first | done | rfl | (simp only [List.length_drop,List.length_take];rfl)) ?_;(with_reducible refine (bits_Len.calls (IntKind.u64.wrap ((a0.size:Int))) t110 _ A2.out).mono ?_);rintro e w11 ⟨rfl,hb⟩;refine ⟨_,rfl,?_⟩;have n0_:=Aside0.mk (blk_below (g:=gb109) (o:=.cells #[.int .i64 0,.string (⟨#[]⟩:ByteArray)] 81 (0,0)) (by (with_reducible repeat (first | refine blk_drewN ?_ _ | refine blk_drew ?_ | refine blk_alloc ?_ _));exact BK109.out) hb);have n1_:=Aside0.mk (below_step (by repeat (first | (with_reducible first | exact HB.out | apply below_alloc | apply pw_below_drewN | apply below_drew1 | refine below_set ?_ GE109.out) | exact HB.out)) hb);clear BK109;clear HB;have BK109:=n0_;have HB:=n1_;clear n0_ n1_;(try clear hb)) | ((with_reducible refine gate_callee (f:=61) rfl ?_);refine goesL_ (some 12) rfl rfl Try.func61 (by kernel_rfl) rfl #[.int .i64 ji5,.int .i64 1,.int .i64 5] rfl (by (try simp only [List.map_toArray,List.map_cons,List.map_nil]);first | done | (simp only [hji5];rfl) | rfl | (simp only [List.length_drop,List.length_take];rfl)) ?_;(with_reducible refine (card_within.calls ji5 1 5 true _ A3.out).mono ?_);rintro e w' ⟨rfl,⟨nd,rfl⟩⟩;refine ⟨_,rfl,?_⟩;(try (rw [drewN_self w11];generalize hq_:World.drewN w11 _ = w11;have n0_:Aside0 (w11.heap[gb109]? = some (.cells #[.int .i64 0,.string (⟨#[]⟩:ByteArray)] 81 (0,0))):=⟨by rw [← hq_];exact (by (with_reducible repeat (first | refine blk_drewN ?_ _ | refine blk_drew ?_ | refine blk_alloc ?_ _));exact BK109.out)⟩;have n1_:Aside0 (Below w.heap.size w w11):=⟨by rw [← hq_];exact (by repeat (first | (with_reducible first | exact HB.out | apply below_alloc | apply pw_below_drewN | apply below_drew1 | refine below_set ?_ GE109.out) | exact HB.out))⟩;clear BK109 HB hq_;have BK109:=n0_;have HB:=n1_;clear n0_ n1_))) | (go_at_call 95;(with_reducible refine (contains96.calls a0 t112 _ A9.out).mono ?_);rintro e w12 ⟨rfl,hb⟩;have n0_:=Aside0.mk (blk_below (g:=gb109) (o:=.cells #[.int .i64 0,.string (⟨#[]⟩:ByteArray)] 81 (0,0)) (by (with_reducible repeat (first | refine blk_drewN ?_ _ | refine blk_drew ?_ | refine blk_alloc ?_ _));exact BK109.out) hb);have n1_:=Aside0.mk (below_step (by repeat (first | (with_reducible first | exact HB.out | apply below_alloc | apply pw_below_drewN | apply below_drew1 | refine below_set ?_ GE109.out) | exact HB.out)) hb);clear BK109;clear HB;have BK109:=n0_;have HB:=n1_;clear n0_ n1_;(try clear hb);have hcz13_0:w12.cell? ⟨gb109,0,none⟩ = some (.int .i64 0):=(blk_cell BK109.out 0).trans rfl;have hcz13_1:w12.cell? ⟨gb109,1,none⟩ = some (.string (⟨#[]⟩:ByteArray)):=(blk_cell BK109.out 1).trans rfl;have hfz13_0:=blk_frozen BK109.out 0;have hfz13_1:=blk_frozen BK109.out 1))
 refine bodyPost_ret (results_ct rfl _ _ gb109 81 #[.int .i64 ji5,.string a0] (0,0) _ rfl (by (with_reducible repeat (first | refine blk_drewN ?_ _ | refine blk_drew ?_ | refine blk_alloc ?_ _));refine blk_put (cs:=#[.int .i64 ji5,.string (⟨#[]⟩:ByteArray)]) ?_ 1 _ rfl;(with_reducible repeat (first | refine blk_drewN ?_ _ | refine blk_drew ?_ | refine blk_alloc ?_ _));refine blk_put (cs:=#[.int .i64 0,.string (⟨#[]⟩:ByteArray)]) ?_ 0 _ rfl;(with_reducible repeat (first | refine blk_drewN ?_ _ | refine blk_drew ?_ | refine blk_alloc ?_ _));exact BK109.out) Try.underlying81 rfl (by kernel_rfl)) rfl ?_
 exact ⟨by first | rfl | (simp [errW_none,errW_some] <;> rfl) | (simp only [← hji5,← hji7];first | rfl | (simp [errW_none,errW_some] <;> rfl)) | (simp [*,errW_none,errW_some] <;> rfl),by repeat (first | (with_reducible first | exact HB.out | apply below_alloc | apply pw_below_drewN | apply below_drew1 | refine below_set ?_ GE109.out) | exact HB.out)⟩
mutual
def numnahref01_Vars.l0:Nat → ByteArray → Int → Option (Int)
 | 0,_,_=>none
 | k + 1,x0,x3=>if x3 ≤ 5 then (if 0 ≤ x3 then (if (x0.size:Int) = (shl .i64 1 x3) then (numnahref01_Vars.l1 k x0 x3 0) else (numnahref01_Vars.l0 k x0 (wrap64 (x3 + 1)))) else (none)) else (some 0)
def numnahref01_Vars.l1:Nat → ByteArray → Int → Int → Option (Int)
 | 0,_,_,_=>none
 | k + 1,x0,x3,x4=>if x4 < (x0.size:Int) then (if 0 ≤ x4 then (if (bt x0 x4) = 48 then (numnahref01_Vars.l1 k x0 x3 (wrap64 (x4 + 1))) else (if (bt x0 x4) = 49 then (numnahref01_Vars.l1 k x0 x3 (wrap64 (x4 + 1))) else (if (bt x0 x4) = 45 then (numnahref01_Vars.l1 k x0 x3 (wrap64 (x4 + 1))) else (some 0)))) else (none)) else (some x3)
end
def numnahref01_Vars.f (k:Nat) (a0:ByteArray):Option (Int):=numnahref01_Vars.l0 k a0 1
theorem numnahref01_Vars.mono_l:∀ k,(∀ y0 y1,LeO (numnahref01_Vars.l0 k y0 y1) (numnahref01_Vars.l0 (k + 1) y0 y1)) ∧ (∀ y0 y1 y2,LeO (numnahref01_Vars.l1 k y0 y1 y2) (numnahref01_Vars.l1 (k + 1) y0 y1 y2))
 | 0=>⟨fun _ _ r h=>by simp [numnahref01_Vars.l0] at h,fun _ _ _ r h=>by simp [numnahref01_Vars.l1] at h⟩
 | k + 1=>by
  obtain ⟨ih0,ih1⟩:=numnahref01_Vars.mono_l k
  refine ⟨?_,?_⟩
  ·intro y0 y1
   unfold numnahref01_Vars.l0
   repeat' first
   | (with_reducible exact ih0 _ _)
   | (with_reducible exact ih1 _ _ _)
   | (with_reducible exact LeO.refl _)
   | (with_reducible exact LeO.none _)
   | (with_reducible refine LeO.ite ?_ ?_)
   | (with_reducible refine LeO.bind ?_ (fun _=>?_))
   | exact ih0 _ _
   | exact ih1 _ _ _
   | exact LeO.none _
   | refine LeO.ite ?_ ?_
   | refine LeO.bind ?_ (fun _=>?_)
  intro y0 y1 y2
  unfold numnahref01_Vars.l1
  repeat' first
  | (with_reducible exact ih0 _ _)
  | (with_reducible exact ih1 _ _ _)
  | (with_reducible exact LeO.refl _)
  | (with_reducible exact LeO.none _)
  | (with_reducible refine LeO.ite ?_ ?_)
  | (with_reducible refine LeO.bind ?_ (fun _=>?_))
  | exact ih0 _ _
  | exact ih1 _ _ _
  | exact LeO.none _
  | refine LeO.ite ?_ ?_
  | refine LeO.bind ?_ (fun _=>?_)
theorem numnahref01_Vars.mono:∀ a0 k,LeO (numnahref01_Vars.f k a0) (numnahref01_Vars.f (k + 1) a0):=by
 intro a0 k
 obtain ⟨ih0,ih1⟩:=numnahref01_Vars.mono_l k
 unfold numnahref01_Vars.f
 repeat' first
   | (with_reducible exact ih0 _ _)
   | (with_reducible exact ih1 _ _ _)
   | (with_reducible exact LeO.refl _)
   | (with_reducible exact LeO.none _)
   | (with_reducible refine LeO.ite ?_ ?_)
   | (with_reducible refine LeO.bind ?_ (fun _=>?_))
   | exact ih0 _ _
   | exact ih1 _ _ _
   | exact LeO.none _
   | refine LeO.ite ?_ ?_
   | refine LeO.bind ?_ (fun _=>?_)
theorem numnahref01_Vars.calls (k:Nat) (a0:ByteArray) (r:Int) (w:World) (h:numnahref01_Vars.f k a0 = some r) :
  Calls Try.prog 24 #[.string a0] w fun e w'=>e = .returned (.int .i64 r) ∧ Drawn0 w w':=by
 have H:(numnahref01_Vars.l0 k a0 1) = some r:=h
 clear h
 have H':=Aside0.mk H
 clear H
 go_enter Try.func24,Try.ntmps24
 go_wp2
 go_loopg [3] k (fun kq v3 w'=>∃ (x3_1:Int),v3 = .int .i64 x3_1 ∧ Aside0 (numnahref01_Vars.l0 kq a0 x3_1 = some r) ∧ Aside0 (kq ≤ k) ∧ Drawn0 w w')
 case atStart=>exact ⟨(1),(by first | rfl | (simp;done) | (simp [*];done)),H',⟨Nat.le_refl _⟩,by repeat (first | exact Drawn0.refl _ | apply Drawn0.step)⟩
 case round =>
  clear H'
  obtain ⟨x3_1,rfl,HA,HK1,⟨m1,rfl⟩⟩:=hrel
  cases gk with
  | zero=>exact absurd HA.out (by simp [numnahref01_Vars.l0])
  | succ k1 =>
   have H:=HA.out
   clear HA
   simp only [numnahref01_Vars.l0] at H
   by_cases c2:x3_1 ≤ 5
   case neg =>
    rw [if_neg c2] at H
    have c2b0:decide (x3_1 ≤ 5) = false:=decide_eq_false c2
    clear c2
    obtain rfl:=Option.some.inj H
    go_wp2
    go_ret
    exact ⟨by first | rfl | (simp;done) | (simp [*];done),by repeat (first | exact Drawn0.refl _ | apply Drawn0.step)⟩
   rw [if_pos c2] at H
   have c2b0:decide (x3_1 ≤ 5) = true:=decide_eq_true c2
   clear c2
   by_cases c3:0 ≤ x3_1
   case neg =>
    rw [if_neg c3] at H
    exact absurd H (by simp)
   rw [if_pos c3] at H
   have c3b0:=eq_true c3
   have c3b1:decide (0 ≤ x3_1) = true:=decide_eq_true c3
   clear c3
   obtain ⟨ji4,hji4⟩:∃ j_:Int,(shl .i64 1 x3_1) = j_:=⟨_,rfl⟩
   replace H:(if (a0.size:Int) = (ji4) then (numnahref01_Vars.l1 k1 a0 x3_1 0) else (numnahref01_Vars.l0 k1 a0 (wrap64 (x3_1 + 1)))) = some r:=by first | (rw [hji4] at H;exact H) | (simp only [hji4] at H ⊢;exact H)
   have hji4_:(IntKind.i64.wrap (1 * 2 ^ min x3_1.toNat 64)) = ji4:=hji4
   have hji4z:x3_1 ≤ 64 → (IntKind.i64.wrap (1 * 2 ^ x3_1.toNat)) = ji4:=shl_small hji4
   have hji4u:(IntKind.i64.wrap (2 ^ min x3_1.toNat 64)) = ji4:=by have h_:=hji4_;rw [Int.one_mul] at h_;exact h_
   have hji4v:x3_1 ≤ 64 → (IntKind.i64.wrap (2 ^ x3_1.toNat)) = ji4:=fun hle_=>by have h_:=hji4z hle_;rw [Int.one_mul] at h_;exact h_
   have hji4y:(wrap64 (1 * 2 ^ min x3_1.toNat 64)) = ji4:=(i64_w _).symm.trans hji4_
   have hji4x:x3_1 ≤ 64 → (wrap64 (1 * 2 ^ x3_1.toNat)) = ji4:=fun h_=>(i64_w _).symm.trans (hji4z h_)
   by_cases c5:(a0.size:Int) = (ji4)
   case neg =>
    rw [if_neg c5] at H
    have c5b0:((a0.size:Int) == (ji4)) = false:=beq_eq_false_iff_ne.mpr c5
    have c5b1:((a0.size:Int) != (ji4)) = true:=bne_iff_ne.mpr c5
    have H':=Aside0.mk H
    clear H
    go_wp2
    go_roundg k1
    case measure=>have:=HK1.out;omega
    case rel=>exact ⟨(wrap64 (x3_1 + 1)),(by first | rfl | (simp;done) | (simp [*];done)),H',⟨by have:=HK1.out;omega⟩,by repeat (first | exact Drawn0.refl _ | apply Drawn0.step)⟩
   rw [if_pos c5] at H
   have c5b0:((a0.size:Int) == (ji4)) = true:=beq_iff_eq.mpr c5
   have c5b1:((a0.size:Int) != (ji4)) = false:=bne_eq_false_iff_eq.mpr c5
   clear c5
   have H':=Aside0.mk H
   clear H
   go_wp2
   go_loopg [4] k1 (fun kq v4 w'=>∃ (x4_2:Int),v4 = .int .i64 x4_2 ∧ Aside0 (numnahref01_Vars.l1 kq a0 x3_1 x4_2 = some r) ∧ Aside0 (kq ≤ k1) ∧ Drawn0 w w')
   case atStart=>exact ⟨(0),(by first | rfl | (simp;done) | (simp [*];done)),H',⟨Nat.le_refl _⟩,by repeat (first | exact Drawn0.refl _ | apply Drawn0.step)⟩
   case round =>
    clear H'
    try clear c2
    try clear c2b0
    try clear p2
    try clear c3
    try clear c3b0
    try clear c3b1
    try clear c5
    try clear c5b0
    try clear c5b1
    obtain ⟨x4_2,rfl,HA,HK2,⟨m2,rfl⟩⟩:=hrel
    cases gk with
    | zero=>exact absurd HA.out (by simp [numnahref01_Vars.l1])
    | succ k2 =>
     have H:=HA.out
     clear HA
     simp only [numnahref01_Vars.l1] at H
     by_cases c6:x4_2 < (a0.size:Int)
     case neg =>
      rw [if_neg c6] at H
      have c6b0:decide (x4_2 < (a0.size:Int)) = false:=decide_eq_false c6
      clear c6
      obtain rfl:=Option.some.inj H
      go_wp2
      go_ret
      exact ⟨by first | rfl | (simp;done) | (simp only [← hji4] <;> (first | rfl | simp)) | (simp [*];done),by repeat (first | exact Drawn0.refl _ | apply Drawn0.step)⟩
     rw [if_pos c6] at H
     have c6b0:decide (x4_2 < (a0.size:Int)) = true:=decide_eq_true c6
     clear c6
     by_cases c7:0 ≤ x4_2
     case neg =>
      rw [if_neg c7] at H
      exact absurd H (by simp)
     rw [if_pos c7] at H
     have c7b0:decide (0 ≤ x4_2) = true:=decide_eq_true c7
     clear c7
     by_cases c9:(bt a0 x4_2) = 48
     ·rw [if_pos c9] at H
      have c9b0:((bt a0 x4_2) == 48) = true:=beq_iff_eq.mpr c9
      have c9b1:((bt a0 x4_2) != 48) = false:=bne_eq_false_iff_eq.mpr c9
      clear c9
      have H':=Aside0.mk H
      clear H
      have p8:0 ≤ (x4_2:Int):=of_decide_eq_true (by first | (with_reducible assumption) | assumption)
      have q8:x4_2 < (a0.size:Int):=of_decide_eq_true (by first | (with_reducible assumption) | assumption)
      have hx8:=bt_at a0 x4_2
      replace p8:=eq_true p8
      replace q8:=eq_true q8
      go_wp2
      go_roundg k2
      case measure=>have:=HK1.out;have:=HK2.out;omega
      case rel=>exact ⟨(wrap64 (x4_2 + 1)),(by first | rfl | (simp;done) | (simp [*];done)),H',⟨by have:=HK1.out;have:=HK2.out;omega⟩,by repeat (first | exact Drawn0.refl _ | apply Drawn0.step)⟩
     rw [if_neg c9] at H
     have c9b0:((bt a0 x4_2) == 48) = false:=beq_eq_false_iff_ne.mpr c9
     have c9b1:((bt a0 x4_2) != 48) = true:=bne_iff_ne.mpr c9
     by_cases c11:(bt a0 x4_2) = 49
     ·rw [if_pos c11] at H
      have c11b0:((bt a0 x4_2) == 49) = true:=beq_iff_eq.mpr c11
      have c11b1:((bt a0 x4_2) != 49) = false:=bne_eq_false_iff_eq.mpr c11
      clear c11
      have H':=Aside0.mk H
      clear H
      have p8:0 ≤ (x4_2:Int):=of_decide_eq_true (by first | (with_reducible assumption) | assumption)
      have q8:x4_2 < (a0.size:Int):=of_decide_eq_true (by first | (with_reducible assumption) | assumption)
      have hx8:=bt_at a0 x4_2
      replace p8:=eq_true p8
      replace q8:=eq_true q8
      have p10:0 ≤ (x4_2:Int):=of_decide_eq_true (by first | (with_reducible assumption) | assumption)
      have q10:x4_2 < (a0.size:Int):=of_decide_eq_true (by first | (with_reducible assumption) | assumption)
      have hx10:=bt_at a0 x4_2
      replace p10:=eq_true p10
      replace q10:=eq_true q10
      go_wp2
      go_roundg k2
      case measure=>have:=HK1.out;have:=HK2.out;omega
      case rel=>exact ⟨(wrap64 (x4_2 + 1)),(by first | rfl | (simp;done) | (simp [*];done)),H',⟨by have:=HK1.out;have:=HK2.out;omega⟩,by repeat (first | exact Drawn0.refl _ | apply Drawn0.step)⟩
     rw [if_neg c11] at H
     have c11b0:((bt a0 x4_2) == 49) = false:=beq_eq_false_iff_ne.mpr c11
     have c11b1:((bt a0 x4_2) != 49) = true:=bne_iff_ne.mpr c11
     by_cases c13:(bt a0 x4_2) = 45
     case neg =>
      rw [if_neg c13] at H
      have c13b0:((bt a0 x4_2) == 45) = false:=beq_eq_false_iff_ne.mpr c13
      have c13b1:((bt a0 x4_2) != 45) = true:=bne_iff_ne.mpr c13
      obtain rfl:=Option.some.inj H
      have p8:0 ≤ (x4_2:Int):=of_decide_eq_true (by first | (with_reducible assumption) | assumption)
      have q8:x4_2 < (a0.size:Int):=of_decide_eq_true (by first | (with_reducible assumption) | assumption)
      have hx8:=bt_at a0 x4_2
      replace p8:=eq_true p8
      replace q8:=eq_true q8
      have p10:0 ≤ (x4_2:Int):=of_decide_eq_true (by first | (with_reducible assumption) | assumption)
      have q10:x4_2 < (a0.size:Int):=of_decide_eq_true (by first | (with_reducible assumption) | assumption)
      have hx10:=bt_at a0 x4_2
      replace p10:=eq_true p10
      replace q10:=eq_true q10
      have p12:0 ≤ (x4_2:Int):=of_decide_eq_true (by first | (with_reducible assumption) | assumption)
      have q12:x4_2 < (a0.size:Int):=of_decide_eq_true (by first | (with_reducible assumption) | assumption)
      have hx12:=bt_at a0 x4_2
      replace p12:=eq_true p12
      replace q12:=eq_true q12
      go_wp2
      go_ret
      exact ⟨by first | rfl | (simp;done) | (simp only [← hji4] <;> (first | rfl | simp)) | (simp [*];done),by repeat (first | exact Drawn0.refl _ | apply Drawn0.step)⟩
     rw [if_pos c13] at H
     have c13b0:((bt a0 x4_2) == 45) = true:=beq_iff_eq.mpr c13
     have c13b1:((bt a0 x4_2) != 45) = false:=bne_eq_false_iff_eq.mpr c13
     clear c13
     have H':=Aside0.mk H
     clear H
     have p8:0 ≤ (x4_2:Int):=of_decide_eq_true (by first | (with_reducible assumption) | assumption)
     have q8:x4_2 < (a0.size:Int):=of_decide_eq_true (by first | (with_reducible assumption) | assumption)
     have hx8:=bt_at a0 x4_2
     replace p8:=eq_true p8
     replace q8:=eq_true q8
     have p10:0 ≤ (x4_2:Int):=of_decide_eq_true (by first | (with_reducible assumption) | assumption)
     have q10:x4_2 < (a0.size:Int):=of_decide_eq_true (by first | (with_reducible assumption) | assumption)
     have hx10:=bt_at a0 x4_2
     replace p10:=eq_true p10
     replace q10:=eq_true q10
     have p12:0 ≤ (x4_2:Int):=of_decide_eq_true (by first | (with_reducible assumption) | assumption)
     have q12:x4_2 < (a0.size:Int):=of_decide_eq_true (by first | (with_reducible assumption) | assumption)
     have hx12:=bt_at a0 x4_2
     replace p12:=eq_true p12
     replace q12:=eq_true q12
     go_wp2
     go_roundg k2
     case measure=>have:=HK1.out;have:=HK2.out;omega
     case rel=>exact ⟨(wrap64 (x4_2 + 1)),(by first | rfl | (simp;done) | (simp [*];done)),H',⟨by have:=HK1.out;have:=HK2.out;omega⟩,by repeat (first | exact Drawn0.refl _ | apply Drawn0.step)⟩
def slices_Index_int_int.l0:Nat → List Int → Int → Int → Int → Option (Int)
 | 0,_,_,_,_=>none
 | k + 1,x0,x1,x7,x8=>if x8 < x7 then (if 0 ≤ x8 then (if x8 < (x0.length:Int) then (if x1 = (rd x0 x8) then (some x8) else (slices_Index_int_int.l0 k x0 x1 x7 (wrap64 (x8 + 1)))) else (none)) else (none)) else (some (-1))
def slices_Index_int_int.f (k:Nat) (l0:List Int) (a1:Int):Option (Int):=slices_Index_int_int.l0 k l0 a1 (l0.length:Int) 0
theorem slices_Index_int_int.mono_l:∀ k,(∀ y0 y1 y2 y3,LeO (slices_Index_int_int.l0 k y0 y1 y2 y3) (slices_Index_int_int.l0 (k + 1) y0 y1 y2 y3))
 | 0=>fun _ _ _ _ r h=>by simp [slices_Index_int_int.l0] at h
 | k + 1=>by
  have ih0:=slices_Index_int_int.mono_l k
  intro y0 y1 y2 y3
  unfold slices_Index_int_int.l0
  repeat' first
  | (with_reducible exact ih0 _ _ _ _)
  | (with_reducible exact LeO.refl _)
  | (with_reducible exact LeO.none _)
  | (with_reducible refine LeO.ite ?_ ?_)
  | (with_reducible refine LeO.bind ?_ (fun _=>?_))
  | exact ih0 _ _ _ _
  | exact LeO.none _
  | refine LeO.ite ?_ ?_
  | refine LeO.bind ?_ (fun _=>?_)
theorem slices_Index_int_int.mono:∀ a0 a1 k,LeO (slices_Index_int_int.f k a0 a1) (slices_Index_int_int.f (k + 1) a0 a1):=by
 intro a0 a1 k
 have ih0:=slices_Index_int_int.mono_l k
 unfold slices_Index_int_int.f
 repeat' first
   | (with_reducible exact ih0 _ _ _ _)
   | (with_reducible exact LeO.refl _)
   | (with_reducible exact LeO.none _)
   | (with_reducible refine LeO.ite ?_ ?_)
   | (with_reducible refine LeO.bind ?_ (fun _=>?_))
   | exact ih0 _ _ _ _
   | exact LeO.none _
   | refine LeO.ite ?_ ?_
   | refine LeO.bind ?_ (fun _=>?_)
theorem slices_Index_int_int.calls (k:Nat) (A0:Option Addr) (c0:Nat) (l0:List Int) (a1:Int) (r:Int) (w:World) (hr0:Kd.C (Kd.int .i64) w A0 l0.length l0) (hc0:l0.length ≤ c0) (h:slices_Index_int_int.f k l0 a1 = some r) :
  Calls Try.prog 102 #[.slice A0 l0.length c0,.int .i64 a1] w fun e w'=>e = .returned (.int .i64 r) ∧ Drawn0 w w':=by
 have HR0:=Aside0.mk hr0
 have HC0:=Aside0.mk hc0
 clear hr0 hc0
 have H:(slices_Index_int_int.l0 k l0 a1 (l0.length:Int) 0) = some r:=h
 clear h
 have H':=Aside0.mk H
 clear H
 go_enter Try.func102,Try.ntmps102
 go_wp2
 go_loopg [8] k (fun kq v8 w'=>∃ (x8_1:Int),v8 = .int .i64 x8_1 ∧ Aside0 (slices_Index_int_int.l0 kq l0 a1 (l0.length:Int) x8_1 = some r) ∧ Aside0 (kq ≤ k) ∧ Drawn0 w w')
 case atStart=>exact ⟨(0),(by first | rfl | (simp;done) | (simp [*];done)),H',⟨Nat.le_refl _⟩,by repeat (first | exact Drawn0.refl _ | apply Drawn0.step)⟩
 case round =>
  clear H'
  try clear c1
  try clear p2
  obtain ⟨x8_1,rfl,HA,HK1,⟨m1,rfl⟩⟩:=hrel
  cases gk with
  | zero=>exact absurd HA.out (by simp [slices_Index_int_int.l0])
  | succ k1 =>
   have H:=HA.out
   clear HA
   simp only [slices_Index_int_int.l0] at H
   by_cases c3:x8_1 < (l0.length:Int)
   case neg =>
    rw [if_neg c3] at H
    have c3b0:decide (x8_1 < (l0.length:Int)) = false:=decide_eq_false c3
    clear c3
    obtain rfl:=Option.some.inj H
    go_wp2
    go_ret
    exact ⟨by first | rfl | (simp;done) | (simp [*];done),by repeat (first | exact Drawn0.refl _ | apply Drawn0.step)⟩
   rw [if_pos c3] at H
   have c3b0:decide (x8_1 < (l0.length:Int)) = true:=decide_eq_true c3
   clear c3
   by_cases c4:0 ≤ x8_1
   case neg =>
    rw [if_neg c4] at H
    exact absurd H (by simp)
   rw [if_pos c4] at H
   have c4b0:decide (0 ≤ x8_1) = true:=decide_eq_true c4
   clear c4
   by_cases c5:x8_1 < (l0.length:Int)
   case neg =>
    rw [if_neg c5] at H
    exact absurd H (by simp)
   rw [if_pos c5] at H
   have c5b0:decide (x8_1 < (l0.length:Int)) = true:=decide_eq_true c5
   clear c5
   by_cases c6:a1 = (rd l0 x8_1)
   ·rw [if_pos c6] at H
    have c6b0:(a1 == (rd l0 x8_1)) = true:=beq_iff_eq.mpr c6
    have c6b1:(a1 != (rd l0 x8_1)) = false:=bne_eq_false_iff_eq.mpr c6
    clear c6
    obtain rfl:=Option.some.inj H
    have p246:0 ≤ (x8_1:Int):=of_decide_eq_true (by first | (with_reducible assumption) | assumption)
    have q246:x8_1 < (l0.length:Int):=of_decide_eq_true (by first | (with_reducible assumption) | assumption)
    obtain ⟨ad246,e246,hx246_0⟩:=Kd.at_int HR0.out x8_1 p246 q246
    cases e246
    replace p246:=eq_true p246
    replace q246:=eq_true q246
    go_wp2
    go_ret
    exact ⟨by first | rfl | (simp;done) | (simp [*];done),by repeat (first | exact Drawn0.refl _ | apply Drawn0.step)⟩
   rw [if_neg c6] at H
   have c6b0:(a1 == (rd l0 x8_1)) = false:=beq_eq_false_iff_ne.mpr c6
   have c6b1:(a1 != (rd l0 x8_1)) = true:=bne_iff_ne.mpr c6
   have H':=Aside0.mk H
   clear H
   have p246:0 ≤ (x8_1:Int):=of_decide_eq_true (by first | (with_reducible assumption) | assumption)
   have q246:x8_1 < (l0.length:Int):=of_decide_eq_true (by first | (with_reducible assumption) | assumption)
   obtain ⟨ad246,e246,hx246_0⟩:=Kd.at_int HR0.out x8_1 p246 q246
   cases e246
   replace p246:=eq_true p246
   replace q246:=eq_true q246
   go_wp2
   go_roundg k1
   case measure=>have:=HK1.out;omega
   case rel=>exact ⟨(wrap64 (x8_1 + 1)),(by first | rfl | (simp;done) | (simp [*];done)),H',⟨by have:=HK1.out;omega⟩,by repeat (first | exact Drawn0.refl _ | apply Drawn0.step)⟩
def slices_Contains_int_int.f (k:Nat) (l0:List Int) (a1:Int):Option (Bool):=(slices_Index_int_int.f k l0 a1).bind fun t247=>(some (decide (t247 ≥ 0)))
theorem slices_Contains_int_int.mono:∀ a0 a1 k,LeO (slices_Contains_int_int.f k a0 a1) (slices_Contains_int_int.f (k + 1) a0 a1):=by
 intro a0 a1 k
 unfold slices_Contains_int_int.f
 repeat' first
   | (with_reducible exact slices_Index_int_int.mono _ _ _)
   | (with_reducible exact LeO.refl _)
   | (with_reducible exact LeO.none _)
   | (with_reducible refine LeO.ite ?_ ?_)
   | (with_reducible refine LeO.bind ?_ (fun _=>?_))
   | exact slices_Index_int_int.mono _ _ _
   | exact LeO.none _
   | refine LeO.ite ?_ ?_
   | refine LeO.bind ?_ (fun _=>?_)
theorem slices_Contains_int_int.calls (k:Nat) (A0:Option Addr) (c0:Nat) (l0:List Int) (a1:Int) (r:Bool) (w:World) (hr0:Kd.C (Kd.int .i64) w A0 l0.length l0) (hc0:l0.length ≤ c0) (h:slices_Contains_int_int.f k l0 a1 = some r) :
  Calls Try.prog 72 #[.slice A0 l0.length c0,.int .i64 a1] w fun e w'=>e = .returned (.bool r) ∧ Drawn0 w w':=by
 have HR0:=Aside0.mk hr0
 have HC0:=Aside0.mk hc0
 clear hr0 hc0
 have H:((slices_Index_int_int.f k l0 a1).bind fun t247=>(some (decide (t247 ≥ 0)))) = some r:=h
 clear h
 replace H:=Option.bind_eq_some_iff.mp H
 obtain ⟨t247,A30,H⟩:=H
 replace H:(some (decide (t247 ≥ 0))) = some r:=H
 have A3:=Aside0.mk A30
 clear A30
 obtain rfl:=Option.some.inj H
 go_enter Try.func72,Try.ntmps72
 go_wp2_with (first | ((with_reducible refine gate_callee (f:=102) rfl ?_);refine goesL_ (some 7) rfl rfl Try.func102 (by kernel_rfl) rfl #[.slice A0 l0.length c0,.int .i64 a1] rfl (by (try simp only [List.map_toArray,List.map_cons,List.map_nil]);first | done | rfl | (simp only [List.length_drop,List.length_take];rfl)) ?_;(with_reducible refine (slices_Index_int_int.calls k _ _ l0 a1 t247 _ ?side1 ?side2 A3.out).mono ?_);(case side1=>repeat (first | exact HR0.out | (with_reducible refine Kd.C_alloc ?_ _) | (with_reducible refine Kd.C_drewN ?_ _) | (with_reducible refine Kd.C_drew ?_)));(case side2=>exact HC0.out);rintro e w' ⟨rfl,⟨nd,rfl⟩⟩;refine ⟨_,rfl,?_⟩))
 go_ret
 exact ⟨by first | rfl | (simp;done) | (simp [*];done),by repeat (first | exact Drawn0.refl _ | apply Drawn0.step)⟩
end Go.Proofs.Ythpahlkhiknofaa.G
set_option linter.unusedSectionVars false
namespace Go.Proofs.Ythpahlkhiknofaa.P
open Go Go.RowKit Go.Proofs.Ythpahlkhiknofaa.M Go.Proofs.Ythpahlkhiknofaa.G
open Go.Proofs.YthpahlkhiknofaaW.PrintWords Go.Proofs.YthpahlkhiknofaaW.PrintMore
def lg (s:Nat):Nat:=if s = 2 then 1 else if s = 4 then 2 else if s = 8 then 3 else if s = 16 then 4 else if s = 32 then 5 else 0
theorem lg_table:∀ s:Fin 41,(lg s.val = 0 → ¬ (2 ≤ Lib.bitLen s.val ∧ Lib.bitLen s.val ≤ 6 ∧ s.val = 2 ^ (Lib.bitLen s.val - 1))) ∧ (lg s.val ≠ 0 → Lib.bitLen s.val = lg s.val + 1 ∧ s.val = 2 ^ lg s.val ∧ lg s.val ≤ 5) ∧ Lib.bitLen s.val ≤ 6:=by decide +kernel
/-- The number of variables of a function;0: it is none. -/
def fnN (c:ByteArray):Nat:=if okC c = true then lg c.size else 0
theorem fnN_pos {c:ByteArray} (hc:c.size ≤ 40) (h:fnN c ≠ 0):okC c = true ∧ c.size = 2 ^ fnN c ∧ 1 ≤ fnN c ∧ fnN c ≤ 5 ∧ c.size ≤ 32:=by
  unfold fnN at h ⊢
  by_cases ho:okC c = true
  · rw [if_pos ho] at h ⊢
    have:=(lg_table ⟨c.size,by omega⟩).2.1 h
    simp only at this
    have h2:2 ^ lg c.size ≤ 2 ^ 5:=Nat.pow_le_pow_right (by decide) this.2.2
    exact ⟨ho,this.2.1,by omega,this.2.2,by omega⟩
  · rw [if_neg ho] at h;exact absurd rfl h
section
variable {c:ByteArray} (hc:c.size ≤ 40)
include hc
theorem newF:∃ m:Int,(fnN c ≠ 0 → m = (fnN c:Int)) ∧ card_newFunction.f c = some (m,c,decide (fnN c ≠ 0)):=by
  have ht:=lg_table ⟨c.size,by omega⟩
  simp only at ht
  have hu:IntKind.u64.wrap (c.size:Int) = (c.size:Int):=wrap_u64_nat _ (by omega)
  have hb:bits_Len.f (c.size:Int) = some (Lib.bitLen c.size:Int):=by
    unfold bits_Len.f
    rw [if_pos (by omega),Int.toNat_natCast]
  have hw:wrap64 ((Lib.bitLen c.size:Int) - 1) = (Lib.bitLen c.size:Int) - 1:=wrap_id (by omega) (by omega)
  unfold card_newFunction.f
  rw [hu,hb,Option.bind_some,hw]
  unfold card_within.f
  by_cases hl:lg c.size = 0
  · have hn:fnN c = 0:=by unfold fnN;rw [hl];split <;> rfl
    have h1:=ht.1 hl
    refine ⟨(Lib.bitLen c.size:Int) - 1,fun h=>absurd hn h,?_⟩
    have hd:decide (fnN c ≠ 0) = false:=by rw [hn];rfl
    rw [hd]
    by_cases a1:(Lib.bitLen c.size:Int) - 1 ≥ 1
    · rw [if_pos a1,Option.bind_some]
      by_cases a2:(Lib.bitLen c.size:Int) - 1 ≤ 5
      · rw [if_pos (decide_eq_true a2),if_pos (by omega)]
        have e:(Lib.bitLen c.size:Int) - 1 = ((Lib.bitLen c.size - 1:Nat):Int):=by omega
        rw [e,shl_one (by omega),if_neg (fun h=>h1 ⟨by omega,by omega,by exact_mod_cast h⟩)]
      · rw [if_neg (by rw [decide_eq_false a2];decide)]
    · rw [if_neg a1,Option.bind_some,if_neg (by decide)]
  · obtain ⟨h1,h2,h3⟩:=ht.2.1 hl
    have e:(Lib.bitLen c.size:Int) - 1 = (lg c.size:Int):=by omega
    rw [e,if_pos (by omega),Option.bind_some,if_pos (decide_eq_true (by omega)),if_pos (by omega),shl_one (by omega),if_pos (by exact_mod_cast h2)]
    refine ⟨(lg c.size:Int),fun h=>?_,?_⟩
    · unfold fnN at h ⊢
      by_cases ho:okC c = true
      · rw [if_pos ho]
      · rw [if_neg ho] at h;exact absurd rfl h
    · unfold contains96.f
      rw [Option.bind_some,Bool.not_not]
      congr 3
      unfold fnN
      by_cases ho:okC c = true
      · rw [if_pos ho,ho,decide_eq_true hl]
      · have ho':okC c = false:=by simpa using ho
        rw [if_neg ho,ho'];rfl
theorem vars_l1 (n:Nat) (hn:c.size = 2 ^ n):∀ d i,i + d = c.size → Ev (fun k=>numnahref01_Vars.l1 k c (n:Int) (i:Int)) (if allF (isC c) d i = true then (n:Int) else 0):=by
  intro d
  induction d with
  | zero =>
    intro i hi
    refine Ev.step (f:=fun _=>some (n:Int)) (fun k=>?_) (Ev.now _)
    rw [numnahref01_Vars.l1,if_neg (by omega)]
  | succ d ih =>
    intro i hi
    have hn:=ih (i + 1) (by omega)
    refine Ev.step (fun k=>by rw [numnahref01_Vars.l1,if_pos (by omega),if_pos (by omega),wrap_succ (by omega)]) ?_
    rw [allF]
    by_cases h1:bt c (i:Int) = 48
    · have:isC c i = true:=by unfold isC;simp [h1]
      rw [this,Bool.true_and]
      exact Ev.congr (fun k=>if_pos h1) hn
    · by_cases h2:bt c (i:Int) = 49
      · have:isC c i = true:=by unfold isC;simp [h2]
        rw [this,Bool.true_and]
        exact Ev.congr (fun k=>if_neg h1) (Ev.congr (fun k=>if_pos h2) hn)
      · by_cases h3:bt c (i:Int) = 45
        · have:isC c i = true:=by unfold isC;simp [h3]
          rw [this,Bool.true_and]
          exact Ev.congr (fun k=>if_neg h1) (Ev.congr (fun k=>if_neg h2) (Ev.congr (fun k=>if_pos h3) hn))
        · have:isC c i = false:=by unfold isC;simp [h1,h2,h3]
          rw [this]
          exact Ev.congr (fun k=>if_neg h1) (Ev.congr (fun k=>if_neg h2) (Ev.congr (fun k=>if_neg h3) (Ev.now _)))
theorem vars_l0:∀ d i,1 ≤ i → i + d = 6 → (lg c.size ≠ 0 → i ≤ lg c.size) → Ev (fun k=>numnahref01_Vars.l0 k c (i:Int)) (fnN c:Int):=by
  have ht:=lg_table ⟨c.size,by omega⟩
  simp only at ht
  intro d
  induction d with
  | zero =>
    intro i h1 hi hl
    have h0:lg c.size = 0:=by
      apply Classical.byContradiction
      intro h
      have:=(ht.2.1 h).2.2
      have:=hl h
      omega
    have hn:fnN c = 0:=by unfold fnN;rw [h0];split <;> rfl
    refine Ev.step (f:=fun _=>some (fnN c:Int)) (fun k=>?_) (Ev.now _)
    rw [numnahref01_Vars.l0,if_neg (by omega),hn];rfl
  | succ d ih =>
    intro i h1 hi hl
    refine Ev.step (fun k=>by rw [numnahref01_Vars.l0,if_pos (by omega),if_pos (by omega),shl_one (by omega),wrap_succ (by omega)]) ?_
    by_cases hs:(c.size:Int) = ((2 ^ i:Nat):Int)
    · refine Ev.congr (fun k=>if_pos hs) ?_
      have hs':c.size = 2 ^ i:=by exact_mod_cast hs
      have h:=vars_l1 hc i hs' c.size 0 (by omega)
      have e:(if allF (isC c) c.size 0 = true then (i:Int) else 0) = (fnN c:Int):=by
        have hli:lg c.size = i:=by
          rcases (by omega:i = 1 ∨ i = 2 ∨ i = 3 ∨ i = 4 ∨ i = 5) with rfl | rfl | rfl | rfl | rfl <;> rw [hs'] <;> decide
        unfold fnN okC
        rw [hli]
        split <;> rfl
      rw [e] at h
      exact h
    · refine Ev.congr (fun k=>if_neg hs) (ih (i + 1) (by omega) (by omega) (fun h=>?_))
      have h2:=hl h
      have h3:=(ht.2.1 h).2.1
      by_cases e:i = lg c.size
      · exact absurd (by rw [e];exact_mod_cast h3) hs
      · omega
theorem ev_vars:Ev (fun k=>numnahref01_Vars.f k c) (fnN c:Int):=vars_l0 hc 5 1 (by omega) (by omega) (fun h=>by omega)
end
theorem index_l0 {l:List Int} (hl:l.length ≤ 1000000) (q:Int):∀ d i,i + d = l.length → ∃ r:Int,(decide (r ≥ 0) = decide (q ∈ l.drop i)) ∧ Ev (fun k=>slices_Index_int_int.l0 k l q (l.length:Int) (i:Int)) r:=by
  intro d
  induction d with
  | zero =>
    intro i hi
    refine ⟨-1,?_,Ev.step (f:=fun _=>some (-1)) (fun k=>?_) (Ev.now _)⟩
    · rw [List.drop_eq_nil_of_le (by omega)];simp
    · rw [slices_Index_int_int.l0,if_neg (by omega)]
  | succ d ih =>
    intro i hi
    have hil:i < l.length:=by omega
    by_cases h:q = l[i]
    · refine ⟨(i:Int),?_,Ev.step (f:=fun _=>some (i:Int)) (fun k=>?_) (Ev.now _)⟩
      · rw [List.drop_eq_getElem_cons hil,decide_eq_true (by omega),decide_eq_true (by rw [h];exact List.mem_cons_self ..)]
      · rw [slices_Index_int_int.l0,if_pos (by omega),if_pos (by omega),if_pos (by omega),rd_get hil,if_pos h]
    · obtain ⟨r,hr,e⟩:=ih (i + 1) (by omega)
      refine ⟨r,?_,Ev.step (fun k=>?_) e⟩
      · rw [hr,List.drop_eq_getElem_cons hil]
        congr 1
        exact propext ⟨fun hm=>List.mem_cons_of_mem _ hm,fun hm=>(List.mem_cons.1 hm).resolve_left h⟩
      · rw [slices_Index_int_int.l0,if_pos (by omega),if_pos (by omega),if_pos (by omega),rd_get hil,if_neg h,wrap_succ (by omega)]
theorem ev_containsI {l:List Int} (hl:l.length ≤ 1000000) (q:Int):Ev (fun k=>slices_Contains_int_int.f k l q) (decide (q ∈ l)):=by
  obtain ⟨r,hr,e⟩:=index_l0 hl q l.length 0 (by omega)
  unfold slices_Contains_int_int.f
  refine Ev.bind e ?_
  rw [List.drop_zero] at hr
  rw [← hr]
  exact Ev.now _
end Go.Proofs.Ythpahlkhiknofaa.P
namespace Go.Proofs.Ythpahlkhiknofaa.G
open Go Go.RowKit Go.Proofs.YthpahlkhiknofaaW.PrintWords
theorem slices_Contains_int_int.callsT (k:Nat) (A0:Option Addr) (c0:Nat) (l0:List Int) (n:Nat) (a1:Int) (r:Bool) (w:World) (hn:n ≤ l0.length) (hr0:Kd.C (Kd.int .i64) w A0 (l0.take n).length (l0.take n)) (hc0:(l0.take n).length ≤ c0) (h:slices_Contains_int_int.f k (l0.take n) a1 = some r) :
    Calls Try.prog 72 #[.slice A0 n c0,.int .i64 a1] w fun e w'=>e = .returned (.bool r) ∧ Drawn0 w w':=by
  have hl:(l0.take n).length = n:=by rw [List.length_take];omega
  have:=slices_Contains_int_int.calls k A0 c0 (l0.take n) a1 r w hr0 hc0 h
  rwa [hl] at this
end Go.Proofs.Ythpahlkhiknofaa.G
namespace Go.Proofs.Ythpahlkhiknofaa.G
open Go.RowKit Go.Proofs.YthpahlkhiknofaaW.PrintWords Go.Proofs.YthpahlkhiknofaaW.PrintLast Go.Proofs.YthpahlkhiknofaaW.PrintMore
set_option maxHeartbeats 8000000
set_option maxRecDepth 100000
attribute [local go_sem] max2_int min2_int max_two min_two max_three min_three max_four min_four   -- for this text's walks alone
def card_function_areVars.l0:Nat → List Int → List Int → Int → Int → Int → ByteArray → Option (Bool)
 | 0,_,_,_,_,_,_=>none
 | k + 1,x1,x7,x8,x9,x249000,x249001=>if x9 < x8 then (if 0 ≤ x9 then (if x9 < (x7.length:Int) then ((card_within.f (rd x7 x9) 0 (wrap64 (x249000 - 1))).bind fun t250=>(if t250 = true then (if x9 ≤ (x1.length:Int) then ((slices_Contains_int_int.f k (x1.take (x9:Int).toNat) (rd x7 x9)).bind fun t252=>(if t252 = true then (some false) else (card_function_areVars.l0 k x1 x7 x8 (wrap64 (x9 + 1)) x249000 x249001))) else (none)) else (some false))) else (none)) else (none)) else (some true)
def card_function_areVars.f (k:Nat) (a0_0:Int) (a0_1:ByteArray) (l1:List Int):Option (Bool):=card_function_areVars.l0 k l1 l1 (l1.length:Int) 0 a0_0 a0_1
theorem card_function_areVars.mono_l:∀ k,(∀ y0 y1 y2 y3 y4 y5,LeO (card_function_areVars.l0 k y0 y1 y2 y3 y4 y5) (card_function_areVars.l0 (k + 1) y0 y1 y2 y3 y4 y5))
 | 0=>fun _ _ _ _ _ _ r h=>by simp [card_function_areVars.l0] at h
 | k + 1=>by
  have ih0:=card_function_areVars.mono_l k
  intro y0 y1 y2 y3 y4 y5
  unfold card_function_areVars.l0
  repeat' first
  | (with_reducible exact ih0 _ _ _ _ _ _)
  | (with_reducible exact slices_Contains_int_int.mono _ _ _)
  | (with_reducible exact LeO.refl _)
  | (with_reducible exact LeO.none _)
  | (with_reducible refine LeO.ite ?_ ?_)
  | (with_reducible refine LeO.bind ?_ (fun _=>?_))
  | exact ih0 _ _ _ _ _ _
  | exact slices_Contains_int_int.mono _ _ _
  | exact LeO.none _
  | refine LeO.ite ?_ ?_
  | refine LeO.bind ?_ (fun _=>?_)
theorem card_function_areVars.mono:∀ a0 a1 a2 k,LeO (card_function_areVars.f k a0 a1 a2) (card_function_areVars.f (k + 1) a0 a1 a2):=by
 intro a0 a1 a2 k
 have ih0:=card_function_areVars.mono_l k
 unfold card_function_areVars.f
 repeat' first
   | (with_reducible exact ih0 _ _ _ _ _ _)
   | (with_reducible exact slices_Contains_int_int.mono _ _ _)
   | (with_reducible exact LeO.refl _)
   | (with_reducible exact LeO.none _)
   | (with_reducible refine LeO.ite ?_ ?_)
   | (with_reducible refine LeO.bind ?_ (fun _=>?_))
   | exact ih0 _ _ _ _ _ _
   | exact slices_Contains_int_int.mono _ _ _
   | exact LeO.none _
   | refine LeO.ite ?_ ?_
   | refine LeO.bind ?_ (fun _=>?_)
theorem card_function_areVars.calls (k:Nat) (a0_0:Int) (a0_1:ByteArray) (A1:Option Addr) (c1:Nat) (l1:List Int) (r:Bool) (w:World) (hr1:Kd.C (Kd.int .i64) w A1 l1.length l1) (hc1:l1.length ≤ c1) (h:card_function_areVars.f k a0_0 a0_1 l1 = some r) :
  Calls Try.prog 71 #[.agg #[.int .i64 a0_0,.string a0_1],.slice A1 l1.length c1] w fun e w'=>e = .returned (.bool r) ∧ Below w.heap.size w w':=by
 have hu81:=Try.underlying81
 have HR1:=Aside0.mk hr1
 have HC1:=Aside0.mk hc1
 clear hr1 hc1
 have HB:=Aside0.mk (Below.refl w.heap.size w)
 have H:(card_function_areVars.l0 k l1 l1 (l1.length:Int) 0 a0_0 a0_1) = some r:=h
 clear h
 have H':=Aside0.mk H
 clear H
 go_enter Try.func71,Try.ntmps71
 go_wp2_with (first | ((with_reducible refine gate_dst (N:=2) rfl ?_);refine box_event ?hg (N:=2) ?hd (cs:=#[.int .i64 a0_0,.string a0_1]) (t:=81) ?hr ?_;(case hd=>rfl);(case hg=>rfl);(case hr=>first | (go_simp;done) | (go_simp;rfl));intro gb248 hg w3 hbox hb;have n0_:=Aside0.mk (below_step (by repeat (first | (with_reducible first | exact HB.out | apply below_alloc | apply pw_below_drewN | apply below_drew1) | exact HB.out)) hb);have n1_:=Aside0.mk (hbox);have n2_:=Aside0.mk ((by rw [hg];exact (below_size (by repeat (first | (with_reducible first | exact HB.out | apply below_alloc | apply pw_below_drewN | apply below_drew1) | exact HB.out))):w.heap.size ≤ gb248));have n3_:=Aside0.mk ((by rw [hg];exact (below_size (by repeat (first | (with_reducible first | exact HB.out | apply below_alloc | apply pw_below_drewN | apply below_drew1) | exact HB.out))):w.heap.size ≤ gb248));clear HB;have HB:=n0_;have BK248:=n1_;have GW248:=n2_;have GE248:=n3_;clear n0_ n1_ n2_ n3_;clear hb hbox hg))
 go_loopg [9] k (fun kq v9 w'=>∃ (x9_1:Int),v9 = .int .i64 x9_1 ∧ Aside0 (card_function_areVars.l0 kq l1 l1 (l1.length:Int) x9_1 a0_0 a0_1 = some r) ∧ Aside0 (kq ≤ k) ∧ Aside0 (w'.heap[gb248]? = some (.cells #[.int .i64 a0_0,.string a0_1] 81 (0,0))) ∧ Aside0 (Below w.heap.size w w'))
 case atStart=>exact ⟨(0),(by first | rfl | (simp;done) | (simp [*];done)),H',⟨Nat.le_refl _⟩,⟨by (with_reducible repeat (first | refine blk_drewN ?_ _ | refine blk_drew ?_ | refine blk_alloc ?_ _));exact BK248.out⟩,⟨by repeat (first | (with_reducible first | exact HB.out | apply below_alloc | apply pw_below_drewN | apply below_drew1 | refine below_set ?_ GE248.out) | exact HB.out)⟩⟩
 case round =>
  clear H'
  try clear c1
  try clear p2
  obtain ⟨x9_1,rfl,HA,HK1,BK248,HB⟩:=hrel
  cases gk with
  | zero=>exact absurd HA.out (by simp [card_function_areVars.l0])
  | succ k1 =>
   have H:=HA.out
   clear HA
   simp only [card_function_areVars.l0] at H
   by_cases c4:x9_1 < (l1.length:Int)
   case neg =>
    rw [if_neg c4] at H
    have c4b0:decide (x9_1 < (l1.length:Int)) = false:=decide_eq_false c4
    clear c4
    obtain rfl:=Option.some.inj H
    go_wp2
    go_ret
    exact ⟨by first | rfl | (simp [errW_none,errW_some] <;> rfl) | (simp [*,errW_none,errW_some] <;> rfl),by repeat (first | (with_reducible first | exact HB.out | apply below_alloc | apply pw_below_drewN | apply below_drew1 | refine below_set ?_ GE248.out) | exact HB.out)⟩
   rw [if_pos c4] at H
   have c4b0:decide (x9_1 < (l1.length:Int)) = true:=decide_eq_true c4
   clear c4
   by_cases c5:0 ≤ x9_1
   case neg =>
    rw [if_neg c5] at H
    exact absurd H (by simp)
   rw [if_pos c5] at H
   have c5b0:decide (0 ≤ x9_1) = true:=decide_eq_true c5
   clear c5
   by_cases c6:x9_1 < (l1.length:Int)
   case neg =>
    rw [if_neg c6] at H
    exact absurd H (by simp)
   rw [if_pos c6] at H
   have c6b0:decide (x9_1 < (l1.length:Int)) = true:=decide_eq_true c6
   clear c6
   replace H:=Option.bind_eq_some_iff.mp H
   obtain ⟨t250,A70,H⟩:=H
   replace H:(if t250 = true then (if x9_1 ≤ (l1.length:Int) then ((slices_Contains_int_int.f k1 (l1.take (x9_1:Int).toNat) (rd l1 x9_1)).bind fun t252=>(if t252 = true then (some false) else (card_function_areVars.l0 k1 l1 l1 (l1.length:Int) (wrap64 (x9_1 + 1)) a0_0 a0_1))) else (none)) else (some false)) = some r:=H
   have A7:=Aside0.mk A70
   clear A70
   by_cases c8:t250 = true
   case neg =>
    replace c8:=Bool.eq_false_iff.mpr c8
    subst c8
    have H1:(some false) = some r:=by rw [if_neg (show ¬ (false = true) by decide)] at H;exact H
    clear H
    have H:=H1
    clear H1
    obtain rfl:=Option.some.inj H
    have p249:0 ≤ (x9_1:Int):=of_decide_eq_true (by first | (with_reducible assumption) | assumption)
    have q249:x9_1 < (l1.length:Int):=of_decide_eq_true (by first | (with_reducible assumption) | assumption)
    obtain ⟨ad249,e249,hx249_0⟩:=Kd.at_int HR1.out x9_1 p249 q249
    cases e249
    replace hx249_0:=(HB.out.cell (World.block_lt_of_cell? w _ hx249_0)).trans hx249_0
    replace p249:=eq_true p249
    replace q249:=eq_true q249
    have hcz17_0:wr.cell? ⟨gb248,0,none⟩ = some (.int .i64 a0_0):=(blk_cell BK248.out 0).trans rfl
    have hcz17_1:wr.cell? ⟨gb248,1,none⟩ = some (.string a0_1):=(blk_cell BK248.out 1).trans rfl
    have hfz17_0:=blk_frozen BK248.out 0
    have hfz17_1:=blk_frozen BK248.out 1
    go_wp2_with (first | ((with_reducible refine gate_callee (f:=61) rfl ?_);refine goesL_ (some 18) rfl rfl Try.func61 (by kernel_rfl) rfl #[.int .i64 (rd l1 x9_1),.int .i64 0,.int .i64 (wrap64 (a0_0 - 1))] rfl (by (try simp only [List.map_toArray,List.map_cons,List.map_nil]);first | done | rfl | (simp only [List.length_drop,List.length_take];rfl)) ?_;(with_reducible refine (card_within.calls (rd l1 x9_1) 0 (wrap64 (a0_0 - 1)) false _ A7.out).mono ?_);rintro e w' ⟨rfl,⟨nd,rfl⟩⟩;refine ⟨_,rfl,?_⟩))
    go_ret
    exact ⟨by first | rfl | (simp [errW_none,errW_some] <;> rfl) | (simp [*,errW_none,errW_some] <;> rfl),by repeat (first | (with_reducible first | exact HB.out | apply below_alloc | apply pw_below_drewN | apply below_drew1 | refine below_set ?_ GE248.out) | exact HB.out)⟩
   subst c8
   have H1:(if x9_1 ≤ (l1.length:Int) then ((slices_Contains_int_int.f k1 (l1.take (x9_1:Int).toNat) (rd l1 x9_1)).bind fun t252=>(if t252 = true then (some false) else (card_function_areVars.l0 k1 l1 l1 (l1.length:Int) (wrap64 (x9_1 + 1)) a0_0 a0_1))) else (none)) = some r:=by rw [if_pos rfl] at H;exact H
   clear H
   have H:=H1
   clear H1
   have c9b0:=eq_true (of_decide_eq_true (by first | (with_reducible assumption) | assumption):0 ≤ x9_1)
   by_cases c10:x9_1 ≤ (l1.length:Int)
   case neg =>
    rw [if_neg c10] at H
    exact absurd H (by simp)
   rw [if_pos c10] at H
   have c10b0:=eq_true c10
   have c10b1:decide (x9_1 ≤ (l1.length:Int)) = true:=decide_eq_true c10
   clear c10
   replace H:=Option.bind_eq_some_iff.mp H
   obtain ⟨t252,A110,H⟩:=H
   replace H:(if t252 = true then (some false) else (card_function_areVars.l0 k1 l1 l1 (l1.length:Int) (wrap64 (x9_1 + 1)) a0_0 a0_1)) = some r:=H
   have A11:=Aside0.mk A110
   clear A110
   by_cases c12:t252 = true
   ·subst c12
    have H1:(some false) = some r:=by rw [if_pos rfl] at H;exact H
    clear H
    have H:=H1
    clear H1
    obtain rfl:=Option.some.inj H
    have p249:0 ≤ (x9_1:Int):=of_decide_eq_true (by first | (with_reducible assumption) | assumption)
    have q249:x9_1 < (l1.length:Int):=of_decide_eq_true (by first | (with_reducible assumption) | assumption)
    obtain ⟨ad249,e249,hx249_0⟩:=Kd.at_int HR1.out x9_1 p249 q249
    cases e249
    replace hx249_0:=(HB.out.cell (World.block_lt_of_cell? w _ hx249_0)).trans hx249_0
    replace p249:=eq_true p249
    replace q249:=eq_true q249
    have hcz13_0:wr.cell? ⟨gb248,0,none⟩ = some (.int .i64 a0_0):=(blk_cell BK248.out 0).trans rfl
    have hcz13_1:wr.cell? ⟨gb248,1,none⟩ = some (.string a0_1):=(blk_cell BK248.out 1).trans rfl
    have hfz13_0:=blk_frozen BK248.out 0
    have hfz13_1:=blk_frozen BK248.out 1
    go_wp2_with (first | ((with_reducible refine gate_callee (f:=61) rfl ?_);refine goesL_ (some 18) rfl rfl Try.func61 (by kernel_rfl) rfl #[.int .i64 (rd l1 x9_1),.int .i64 0,.int .i64 (wrap64 (a0_0 - 1))] rfl (by (try simp only [List.map_toArray,List.map_cons,List.map_nil]);first | done | rfl | (simp only [List.length_drop,List.length_take];rfl)) ?_;(with_reducible refine (card_within.calls (rd l1 x9_1) 0 (wrap64 (a0_0 - 1)) true _ A7.out).mono ?_);rintro e w' ⟨rfl,⟨nd,rfl⟩⟩;refine ⟨_,rfl,?_⟩;obtain ⟨i014,hi014,_,hsz14,_⟩:=info_parts info3;obtain ⟨hcut14,hA14,hC14⟩:=print_take_of (P:=Try.prog) (Value.int .i64) 0 22 3 .i64 Try.underlying22 hi014 hsz14 (some ad249) c1 l1 x9_1 (of_decide_eq_true (by first | (with_reducible assumption) | assumption)) (of_decide_eq_true (by first | (with_reducible assumption) | assumption)) HC1.out;have HR251:=Aside0.mk (Kd.C_of_reads (h1:=fun _=>rfl) (hA14 _ (Kd.reads_of_C HR1.out)));have HC251:=Aside0.mk hC14;clear hA14 hC14 hi014 hsz14) | (go_at_call 72;(with_reducible refine (slices_Contains_int_int.callsT k1 _ _ l1 (x9_1:Int).toNat (rd l1 x9_1) true _ (by have h_:x9_1 < (l1.length:Int):=of_decide_eq_true (by first | (with_reducible assumption) | assumption);omega) ?side1 ?side2 A11.out).mono ?_);(case side1=>repeat (first | exact (Kd.C_below HR251.out (by repeat (first | (with_reducible first | exact HB.out | apply below_alloc | apply pw_below_drewN | apply below_drew1 | refine below_set ?_ GE248.out) | exact HB.out))) | (with_reducible refine Kd.C_alloc ?_ _) | (with_reducible refine Kd.C_drewN ?_ _) | (with_reducible refine Kd.C_drew ?_)));(case side2=>exact HC251.out);rintro e w' ⟨rfl,⟨nd,rfl⟩⟩))
    go_ret
    exact ⟨by first | rfl | (simp [errW_none,errW_some] <;> rfl) | (simp [*,errW_none,errW_some] <;> rfl),by repeat (first | (with_reducible first | exact HB.out | apply below_alloc | apply pw_below_drewN | apply below_drew1 | refine below_set ?_ GE248.out) | exact HB.out)⟩
   replace c12:=Bool.eq_false_iff.mpr c12
   subst c12
   have H1:(card_function_areVars.l0 k1 l1 l1 (l1.length:Int) (wrap64 (x9_1 + 1)) a0_0 a0_1) = some r:=by rw [if_neg (show ¬ (false = true) by decide)] at H;exact H
   clear H
   have H:=H1
   clear H1
   have H':=Aside0.mk H
   clear H
   have p249:0 ≤ (x9_1:Int):=of_decide_eq_true (by first | (with_reducible assumption) | assumption)
   have q249:x9_1 < (l1.length:Int):=of_decide_eq_true (by first | (with_reducible assumption) | assumption)
   obtain ⟨ad249,e249,hx249_0⟩:=Kd.at_int HR1.out x9_1 p249 q249
   cases e249
   replace hx249_0:=(HB.out.cell (World.block_lt_of_cell? w _ hx249_0)).trans hx249_0
   replace p249:=eq_true p249
   replace q249:=eq_true q249
   have hcz15_0:wr.cell? ⟨gb248,0,none⟩ = some (.int .i64 a0_0):=(blk_cell BK248.out 0).trans rfl
   have hcz15_1:wr.cell? ⟨gb248,1,none⟩ = some (.string a0_1):=(blk_cell BK248.out 1).trans rfl
   have hfz15_0:=blk_frozen BK248.out 0
   have hfz15_1:=blk_frozen BK248.out 1
   go_wp2_with (first | ((with_reducible refine gate_callee (f:=61) rfl ?_);refine goesL_ (some 18) rfl rfl Try.func61 (by kernel_rfl) rfl #[.int .i64 (rd l1 x9_1),.int .i64 0,.int .i64 (wrap64 (a0_0 - 1))] rfl (by (try simp only [List.map_toArray,List.map_cons,List.map_nil]);first | done | rfl | (simp only [List.length_drop,List.length_take];rfl)) ?_;(with_reducible refine (card_within.calls (rd l1 x9_1) 0 (wrap64 (a0_0 - 1)) true _ A7.out).mono ?_);rintro e w' ⟨rfl,⟨nd,rfl⟩⟩;refine ⟨_,rfl,?_⟩;obtain ⟨i016,hi016,_,hsz16,_⟩:=info_parts info3;obtain ⟨hcut16,hA16,hC16⟩:=print_take_of (P:=Try.prog) (Value.int .i64) 0 22 3 .i64 Try.underlying22 hi016 hsz16 (some ad249) c1 l1 x9_1 (of_decide_eq_true (by first | (with_reducible assumption) | assumption)) (of_decide_eq_true (by first | (with_reducible assumption) | assumption)) HC1.out;have HR251:=Aside0.mk (Kd.C_of_reads (h1:=fun _=>rfl) (hA16 _ (Kd.reads_of_C HR1.out)));have HC251:=Aside0.mk hC16;clear hA16 hC16 hi016 hsz16) | (go_at_call 72;(with_reducible refine (slices_Contains_int_int.callsT k1 _ _ l1 (x9_1:Int).toNat (rd l1 x9_1) false _ (by have h_:x9_1 < (l1.length:Int):=of_decide_eq_true (by first | (with_reducible assumption) | assumption);omega) ?side1 ?side2 A11.out).mono ?_);(case side1=>repeat (first | exact (Kd.C_below HR251.out (by repeat (first | (with_reducible first | exact HB.out | apply below_alloc | apply pw_below_drewN | apply below_drew1 | refine below_set ?_ GE248.out) | exact HB.out))) | (with_reducible refine Kd.C_alloc ?_ _) | (with_reducible refine Kd.C_drewN ?_ _) | (with_reducible refine Kd.C_drew ?_)));(case side2=>exact HC251.out);rintro e w' ⟨rfl,⟨nd,rfl⟩⟩))
   go_roundg k1
   case measure=>have:=HK1.out;omega
   case rel=>exact ⟨(wrap64 (x9_1 + 1)),(by first | rfl | (simp;done) | (simp [*];done)),H',⟨by have:=HK1.out;omega⟩,⟨by (with_reducible repeat (first | refine blk_drewN ?_ _ | refine blk_drew ?_ | refine blk_alloc ?_ _));exact BK248.out⟩,⟨by repeat (first | (with_reducible first | exact HB.out | apply below_alloc | apply pw_below_drewN | apply below_drew1 | refine below_set ?_ GE248.out) | exact HB.out)⟩⟩
mutual
def card_Turn.j0:Nat → ByteArray → List Int → List Int → Bool → Option (ByteArray × Int)
 | 0,_,_,_,_=>none
 | k + 1,x0,x1,x2,x41=>if x41 = true then (some ((⟨#[]⟩:ByteArray),2)) else (if 0 ≤ (x0.size:Int) then (if ((x0.size:Int):Int).toNat ≤ 281474976710656 then ((some (List.replicate ((x0.size:Int):Int).toNat 0:List Int)).bind fun y259=>(card_Turn.l0 k x0 x1 x2 y259 (y259.length:Int) 0)) else (none)) else (none))
def card_Turn.l0:Nat → ByteArray → List Int → List Int → List Int → Int → Int → Option (ByteArray × Int)
 | 0,_,_,_,_,_,_=>none
 | k + 1,x0,x1,x2,x10,x46,x47=>if x47 < x46 then (card_Turn.l1 k x0 x1 x2 x10 x47 0 x46 x47 x1 (x1.length:Int) 0) else (some (strOfNums x10,0))
def card_Turn.l1:Nat → ByteArray → List Int → List Int → List Int → Int → Int → Int → Int → List Int → Int → Int → Option (ByteArray × Int)
 | 0,_,_,_,_,_,_,_,_,_,_,_=>none
 | k + 1,x0,x1,x2,x10,x11,x12,x46,x47,x50,x51,x52=>if x52 < x51 then (if 0 ≤ x52 then (if x52 < (x50.length:Int) then ((slices_Contains_int_int.f k x2 x52).bind fun t263=>(if t263 = true then (if 0 ≤ (rd x50 x52) then (card_Turn.l1 k x0 x1 x2 x10 x11 (Go.bits .or .i64 x12 (shl .i64 (wrap64 (1 - (Go.bits .and .i64 (shr .i64 x11 x52) 1))) (rd x50 x52))) x46 x47 x50 x51 (wrap64 (x52 + 1))) else (none)) else (if 0 ≤ (rd x50 x52) then (card_Turn.l1 k x0 x1 x2 x10 x11 (Go.bits .or .i64 x12 (shl .i64 (Go.bits .and .i64 (shr .i64 x11 x52) 1) (rd x50 x52))) x46 x47 x50 x51 (wrap64 (x52 + 1))) else (none)))) else (none)) else (none)) else (if 0 ≤ x12 then (if x12 < (x0.size:Int) then (if 0 ≤ x11 then (if x11 < (x10.length:Int) then (card_Turn.l0 k x0 x1 x2 (x10.set (x11:Int).toNat (bt x0 x12)) x46 (wrap64 (x47 + 1))) else (none)) else (none)) else (none)) else (none))
end
def card_Turn.f (k:Nat) (a0:ByteArray) (l1:List Int) (l2:List Int):Option (ByteArray × Int):=(card_newFunction.f a0).bind fun bt253=>(if bt253.2.2 = true then ((card_function_areVars.f k bt253.1 bt253.2.1 l1).bind fun t257=>(if t257 = true then (if (l1.length:Int) = bt253.1 then ((card_function_areVars.f k bt253.1 bt253.2.1 l2).bind fun t258=>(card_Turn.j0 k a0 l1 l2 (!t258))) else (card_Turn.j0 k a0 l1 l2 true)) else (card_Turn.j0 k a0 l1 l2 true))) else (card_Turn.j0 k a0 l1 l2 true))
theorem card_Turn.mono_l:∀ k,(∀ y0 y1 y2 y3,LeO (card_Turn.j0 k y0 y1 y2 y3) (card_Turn.j0 (k + 1) y0 y1 y2 y3)) ∧ (∀ y0 y1 y2 y3 y4 y5,LeO (card_Turn.l0 k y0 y1 y2 y3 y4 y5) (card_Turn.l0 (k + 1) y0 y1 y2 y3 y4 y5)) ∧ (∀ y0 y1 y2 y3 y4 y5 y6 y7 y8 y9 y10,LeO (card_Turn.l1 k y0 y1 y2 y3 y4 y5 y6 y7 y8 y9 y10) (card_Turn.l1 (k + 1) y0 y1 y2 y3 y4 y5 y6 y7 y8 y9 y10))
 | 0=>⟨fun _ _ _ _ r h=>by simp [card_Turn.j0] at h,fun _ _ _ _ _ _ r h=>by simp [card_Turn.l0] at h,fun _ _ _ _ _ _ _ _ _ _ _ r h=>by simp [card_Turn.l1] at h⟩
 | k + 1=>by
  obtain ⟨ih0,ih1,ih2⟩:=card_Turn.mono_l k
  refine ⟨?_,?_,?_⟩
  ·intro y0 y1 y2 y3
   unfold card_Turn.j0
   repeat' first
   | (with_reducible exact ih0 _ _ _ _)
   | (with_reducible exact ih1 _ _ _ _ _ _)
   | (with_reducible exact ih2 _ _ _ _ _ _ _ _ _ _ _)
   | (with_reducible exact card_function_areVars.mono _ _ _ _)
   | (with_reducible exact slices_Contains_int_int.mono _ _ _)
   | (with_reducible exact LeO.refl _)
   | (with_reducible exact LeO.none _)
   | (with_reducible refine LeO.ite ?_ ?_)
   | (with_reducible refine LeO.bind ?_ (fun _=>?_))
   | exact ih0 _ _ _ _
   | exact ih1 _ _ _ _ _ _
   | exact ih2 _ _ _ _ _ _ _ _ _ _ _
   | exact card_function_areVars.mono _ _ _ _
   | exact slices_Contains_int_int.mono _ _ _
   | exact LeO.none _
   | refine LeO.ite ?_ ?_
   | refine LeO.bind ?_ (fun _=>?_)
  ·intro y0 y1 y2 y3 y4 y5
   unfold card_Turn.l0
   repeat' first
   | (with_reducible exact ih0 _ _ _ _)
   | (with_reducible exact ih1 _ _ _ _ _ _)
   | (with_reducible exact ih2 _ _ _ _ _ _ _ _ _ _ _)
   | (with_reducible exact card_function_areVars.mono _ _ _ _)
   | (with_reducible exact slices_Contains_int_int.mono _ _ _)
   | (with_reducible exact LeO.refl _)
   | (with_reducible exact LeO.none _)
   | (with_reducible refine LeO.ite ?_ ?_)
   | (with_reducible refine LeO.bind ?_ (fun _=>?_))
   | exact ih0 _ _ _ _
   | exact ih1 _ _ _ _ _ _
   | exact ih2 _ _ _ _ _ _ _ _ _ _ _
   | exact card_function_areVars.mono _ _ _ _
   | exact slices_Contains_int_int.mono _ _ _
   | exact LeO.none _
   | refine LeO.ite ?_ ?_
   | refine LeO.bind ?_ (fun _=>?_)
  intro y0 y1 y2 y3 y4 y5 y6 y7 y8 y9 y10
  unfold card_Turn.l1
  repeat' first
  | (with_reducible exact ih0 _ _ _ _)
  | (with_reducible exact ih1 _ _ _ _ _ _)
  | (with_reducible exact ih2 _ _ _ _ _ _ _ _ _ _ _)
  | (with_reducible exact card_function_areVars.mono _ _ _ _)
  | (with_reducible exact slices_Contains_int_int.mono _ _ _)
  | (with_reducible exact LeO.refl _)
  | (with_reducible exact LeO.none _)
  | (with_reducible refine LeO.ite ?_ ?_)
  | (with_reducible refine LeO.bind ?_ (fun _=>?_))
  | exact ih0 _ _ _ _
  | exact ih1 _ _ _ _ _ _
  | exact ih2 _ _ _ _ _ _ _ _ _ _ _
  | exact card_function_areVars.mono _ _ _ _
  | exact slices_Contains_int_int.mono _ _ _
  | exact LeO.none _
  | refine LeO.ite ?_ ?_
  | refine LeO.bind ?_ (fun _=>?_)
theorem card_Turn.mono:∀ a0 a1 a2 k,LeO (card_Turn.f k a0 a1 a2) (card_Turn.f (k + 1) a0 a1 a2):=by
 intro a0 a1 a2 k
 obtain ⟨ih0,ih1,ih2⟩:=card_Turn.mono_l k
 unfold card_Turn.f
 repeat' first
   | (with_reducible exact ih0 _ _ _ _)
   | (with_reducible exact ih1 _ _ _ _ _ _)
   | (with_reducible exact ih2 _ _ _ _ _ _ _ _ _ _ _)
   | (with_reducible exact card_function_areVars.mono _ _ _ _)
   | (with_reducible exact slices_Contains_int_int.mono _ _ _)
   | (with_reducible exact LeO.refl _)
   | (with_reducible exact LeO.none _)
   | (with_reducible refine LeO.ite ?_ ?_)
   | (with_reducible refine LeO.bind ?_ (fun _=>?_))
   | exact ih0 _ _ _ _
   | exact ih1 _ _ _ _ _ _
   | exact ih2 _ _ _ _ _ _ _ _ _ _ _
   | exact card_function_areVars.mono _ _ _ _
   | exact slices_Contains_int_int.mono _ _ _
   | exact LeO.none _
   | refine LeO.ite ?_ ?_
   | refine LeO.bind ?_ (fun _=>?_)
theorem card_Turn.calls (k:Nat) (a0:ByteArray) (A1:Option Addr) (c1:Nat) (l1:List Int) (A2:Option Addr) (c2:Nat) (l2:List Int) (r1:ByteArray) (r2:Int) (w:World) (hr1:Kd.C (Kd.int .i64) w A1 l1.length l1) (hc1:l1.length ≤ c1) (hr2:Kd.C (Kd.int .i64) w A2 l2.length l2) (hc2:l2.length ≤ c2) (h:card_Turn.f k a0 l1 l2 = some (r1,r2)) :
  Calls Try.prog 37 #[.string a0,.slice A1 l1.length c1,.slice A2 l2.length c2] w fun e w'=>e = .returned (.tuple #[.string r1,.int .i64 r2]) ∧ Below w.heap.size w w':=by
 have hu81:=Try.underlying81
 have HR1:=Aside0.mk hr1
 have HC1:=Aside0.mk hc1
 clear hr1 hc1
 have HR2:=Aside0.mk hr2
 have HC2:=Aside0.mk hc2
 clear hr2 hc2
 have HB:=Aside0.mk (Below.refl w.heap.size w)
 have H:((card_newFunction.f a0).bind fun bt253=>(if bt253.2.2 = true then ((card_function_areVars.f k bt253.1 bt253.2.1 l1).bind fun t257=>(if t257 = true then (if (l1.length:Int) = bt253.1 then ((card_function_areVars.f k bt253.1 bt253.2.1 l2).bind fun t258=>(card_Turn.j0 k a0 l1 l2 (!t258))) else (card_Turn.j0 k a0 l1 l2 true)) else (card_Turn.j0 k a0 l1 l2 true))) else (card_Turn.j0 k a0 l1 l2 true))) = some (r1,r2):=h
 clear h
 replace H:=Option.bind_eq_some_iff.mp H
 obtain ⟨⟨t253,t254,t255⟩,A40,H⟩:=H
 replace H:(if t255 = true then ((card_function_areVars.f k t253 t254 l1).bind fun t257=>(if t257 = true then (if (l1.length:Int) = t253 then ((card_function_areVars.f k t253 t254 l2).bind fun t258=>(card_Turn.j0 k a0 l1 l2 (!t258))) else (card_Turn.j0 k a0 l1 l2 true)) else (card_Turn.j0 k a0 l1 l2 true))) else (card_Turn.j0 k a0 l1 l2 true)) = some (r1,r2):=H
 have A4:=Aside0.mk A40
 clear A40
 have HC5:=Aside0.mk H
 clear H
 go_enter Try.func37,Try.ntmps37
 go_upto_region 2 with (first | ((with_reducible refine gate_callee (f:=65) rfl ?_);refine goesL_ (some 18) rfl rfl Try.func65 (by kernel_rfl) rfl #[.string a0] rfl (by (try simp only [List.map_toArray,List.map_cons,List.map_nil]);first | done | rfl | (simp only [List.length_drop,List.length_take];rfl)) ?_;(with_reducible refine (card_newFunction.calls a0 t253 t254 t255 _ A4.out).mono ?_);rintro e w6 ⟨rfl,hb⟩;refine ⟨_,rfl,?_⟩;have n0_:=Aside0.mk (below_step (by repeat (first | (with_reducible first | exact HB.out | apply below_alloc | apply pw_below_drewN | apply below_drew1) | exact HB.out)) hb);clear HB;have HB:=n0_;clear n0_;(try clear hb)) | ((with_reducible refine gate_dst (N:=8) rfl ?_);(try (refine gate_guard (by rfl) ?_;dsimp only));refine box_event ?hg (N:=8) ?hd (cs:=#[.int .i64 0,.string (⟨#[]⟩:ByteArray)]) (t:=81) ?hr ?_;(case hd=>rfl);(case hg=>rfl);(case hr=>first | (go_simp;done) | (go_simp;rfl));intro gb256 hg w7 hbox hb;have n0_:=Aside0.mk (below_step (by repeat (first | (with_reducible first | exact HB.out | apply below_alloc | apply pw_below_drewN | apply below_drew1) | exact HB.out)) hb);have n1_:=Aside0.mk (hbox);have n2_:=Aside0.mk ((by rw [hg];exact (below_size (by repeat (first | (with_reducible first | exact HB.out | apply below_alloc | apply pw_below_drewN | apply below_drew1) | exact HB.out))):w.heap.size ≤ gb256));have n3_:=Aside0.mk ((by rw [hg];exact (below_size (by repeat (first | (with_reducible first | exact HB.out | apply below_alloc | apply pw_below_drewN | apply below_drew1) | exact HB.out))):w.heap.size ≤ gb256));clear HB;have HB:=n0_;have BK256:=n1_;have GW256:=n2_;have GE256:=n3_;clear n0_ n1_ n2_ n3_;clear hb hbox hg;have hcz8_0:w7.cell? ⟨gb256,0,none⟩ = some (.int .i64 0):=(blk_cell BK256.out 0).trans rfl;have hcz8_1:w7.cell? ⟨gb256,1,none⟩ = some (.string (⟨#[]⟩:ByteArray)):=(blk_cell BK256.out 1).trans rfl;have hfz8_0:=blk_frozen BK256.out 0;have hfz8_1:=blk_frozen BK256.out 1))
 (try simp only [Act.put,List.setIfInBounds_toArray,List.set_cons_zero,List.set_cons_succ])
 go_cut [41] (fun v41 wc=>∃ (kq:Nat) (x41_4:Bool),v41 = .bool x41_4 ∧ Aside0 (card_Turn.j0 kq a0 l1 l2 x41_4 = some (r1,r2)) ∧ Aside0 (kq ≤ k) ∧ Aside0 (wc.heap[gb256]? = some (.cells #[.int .i64 t253,.string t254] 81 (0,0))) ∧ Aside0 (Below w.heap.size w wc))
 case first =>
  have H:=HC5.out
  clear HC5
  by_cases c9:t255 = true
  case neg =>
   replace c9:=Bool.eq_false_iff.mpr c9
   subst c9
   have H1:(card_Turn.j0 k a0 l1 l2 true) = some (r1,r2):=by rw [if_neg (show ¬ (false = true) by decide)] at H;exact H
   clear H
   have H:=H1
   clear H1
   have H':=Aside0.mk H
   clear H
   go_wp2
   go_meet
   case rel=>exact ⟨_,(true),(by first | rfl | (simp;done) | (simp [*];done)),H',⟨by first | omega | exact Nat.le_refl _⟩,⟨by (with_reducible repeat (first | refine blk_drewN ?_ _ | refine blk_drew ?_ | refine blk_alloc ?_ _));refine blk_put (cs:=#[.int .i64 t253,.string (⟨#[]⟩:ByteArray)]) ?_ 1 _ rfl;(with_reducible repeat (first | refine blk_drewN ?_ _ | refine blk_drew ?_ | refine blk_alloc ?_ _));refine blk_put (cs:=#[.int .i64 0,.string (⟨#[]⟩:ByteArray)]) ?_ 0 _ rfl;(with_reducible repeat (first | refine blk_drewN ?_ _ | refine blk_drew ?_ | refine blk_alloc ?_ _));exact BK256.out⟩,⟨by repeat (first | (with_reducible first | exact HB.out | apply below_alloc | apply pw_below_drewN | apply below_drew1 | refine below_set ?_ GE256.out) | exact HB.out)⟩⟩
  subst c9
  have H1:((card_function_areVars.f k t253 t254 l1).bind fun t257=>(if t257 = true then (if (l1.length:Int) = t253 then ((card_function_areVars.f k t253 t254 l2).bind fun t258=>(card_Turn.j0 k a0 l1 l2 (!t258))) else (card_Turn.j0 k a0 l1 l2 true)) else (card_Turn.j0 k a0 l1 l2 true))) = some (r1,r2):=by rw [if_pos rfl] at H;exact H
  clear H
  have H:=H1
  clear H1
  replace H:=Option.bind_eq_some_iff.mp H
  obtain ⟨t257,A100,H⟩:=H
  replace H:(if t257 = true then (if (l1.length:Int) = t253 then ((card_function_areVars.f k t253 t254 l2).bind fun t258=>(card_Turn.j0 k a0 l1 l2 (!t258))) else (card_Turn.j0 k a0 l1 l2 true)) else (card_Turn.j0 k a0 l1 l2 true)) = some (r1,r2):=H
  have A10:=Aside0.mk A100
  clear A100
  by_cases c11:t257 = true
  case neg =>
   replace c11:=Bool.eq_false_iff.mpr c11
   subst c11
   have H1:(card_Turn.j0 k a0 l1 l2 true) = some (r1,r2):=by rw [if_neg (show ¬ (false = true) by decide)] at H;exact H
   clear H
   have H:=H1
   clear H1
   have H':=Aside0.mk H
   clear H
   have hcz21_0:w7.cell? ⟨gb256,0,none⟩ = some (.int .i64 0):=(blk_cell BK256.out 0).trans rfl
   have hcz21_1:w7.cell? ⟨gb256,1,none⟩ = some (.string (⟨#[]⟩:ByteArray)):=(blk_cell BK256.out 1).trans rfl
   have hfz21_0:=blk_frozen BK256.out 0
   have hfz21_1:=blk_frozen BK256.out 1
   go_wp2_with (first | (go_at_call 71;(with_reducible refine (card_function_areVars.calls k t253 t254 _ _ l1 false _ ?side1 ?side2 A10.out).mono ?_);(case side1=>exact Kd.C_below HR1.out (by repeat (first | (with_reducible first | exact HB.out | apply below_alloc | apply pw_below_drewN | apply below_drew1 | refine below_set ?_ GE256.out) | exact HB.out)));(case side2=>exact HC1.out);rintro e w22 ⟨rfl,hb⟩;have n0_:=Aside0.mk (blk_below (g:=gb256) (o:=.cells #[.int .i64 t253,.string t254] 81 (0,0)) (by (with_reducible repeat (first | refine blk_drewN ?_ _ | refine blk_drew ?_ | refine blk_alloc ?_ _));refine blk_put (cs:=#[.int .i64 t253,.string (⟨#[]⟩:ByteArray)]) ?_ 1 _ rfl;(with_reducible repeat (first | refine blk_drewN ?_ _ | refine blk_drew ?_ | refine blk_alloc ?_ _));refine blk_put (cs:=#[.int .i64 0,.string (⟨#[]⟩:ByteArray)]) ?_ 0 _ rfl;(with_reducible repeat (first | refine blk_drewN ?_ _ | refine blk_drew ?_ | refine blk_alloc ?_ _));exact BK256.out) hb);have n1_:=Aside0.mk (below_step (by repeat (first | (with_reducible first | exact HB.out | apply below_alloc | apply pw_below_drewN | apply below_drew1 | refine below_set ?_ GE256.out) | exact HB.out)) hb);clear BK256;clear HB;have BK256:=n0_;have HB:=n1_;clear n0_ n1_;(try clear hb)))
   go_meet
   case rel=>exact ⟨_,(true),(by first | rfl | (simp;done) | (simp [*];done)),H',⟨by first | omega | exact Nat.le_refl _⟩,⟨by (with_reducible repeat (first | refine blk_drewN ?_ _ | refine blk_drew ?_ | refine blk_alloc ?_ _));exact BK256.out⟩,⟨by repeat (first | (with_reducible first | exact HB.out | apply below_alloc | apply pw_below_drewN | apply below_drew1 | refine below_set ?_ GE256.out) | exact HB.out)⟩⟩
  subst c11
  have H1:(if (l1.length:Int) = t253 then ((card_function_areVars.f k t253 t254 l2).bind fun t258=>(card_Turn.j0 k a0 l1 l2 (!t258))) else (card_Turn.j0 k a0 l1 l2 true)) = some (r1,r2):=by rw [if_pos rfl] at H;exact H
  clear H
  have H:=H1
  clear H1
  by_cases c12:(l1.length:Int) = t253
  case neg =>
   rw [if_neg c12] at H
   have c12b0:((l1.length:Int) == t253) = false:=beq_eq_false_iff_ne.mpr c12
   have c12b1:((l1.length:Int) != t253) = true:=bne_iff_ne.mpr c12
   (first | rw [c12b0] | (simp only [i64_w,i32_w];rw [c12b0]) | skip)
   have H':=Aside0.mk H
   clear H
   have hcz18_0:w7.cell? ⟨gb256,0,none⟩ = some (.int .i64 0):=(blk_cell BK256.out 0).trans rfl
   have hcz18_1:w7.cell? ⟨gb256,1,none⟩ = some (.string (⟨#[]⟩:ByteArray)):=(blk_cell BK256.out 1).trans rfl
   have hfz18_0:=blk_frozen BK256.out 0
   have hfz18_1:=blk_frozen BK256.out 1
   go_wp2_with (first | (go_at_call 71;(with_reducible refine (card_function_areVars.calls k t253 t254 _ _ l1 true _ ?side1 ?side2 A10.out).mono ?_);(case side1=>exact Kd.C_below HR1.out (by repeat (first | (with_reducible first | exact HB.out | apply below_alloc | apply pw_below_drewN | apply below_drew1 | refine below_set ?_ GE256.out) | exact HB.out)));(case side2=>exact HC1.out);rintro e w19 ⟨rfl,hb⟩;have n0_:=Aside0.mk (blk_below (g:=gb256) (o:=.cells #[.int .i64 t253,.string t254] 81 (0,0)) (by (with_reducible repeat (first | refine blk_drewN ?_ _ | refine blk_drew ?_ | refine blk_alloc ?_ _));refine blk_put (cs:=#[.int .i64 t253,.string (⟨#[]⟩:ByteArray)]) ?_ 1 _ rfl;(with_reducible repeat (first | refine blk_drewN ?_ _ | refine blk_drew ?_ | refine blk_alloc ?_ _));refine blk_put (cs:=#[.int .i64 0,.string (⟨#[]⟩:ByteArray)]) ?_ 0 _ rfl;(with_reducible repeat (first | refine blk_drewN ?_ _ | refine blk_drew ?_ | refine blk_alloc ?_ _));exact BK256.out) hb);have n1_:=Aside0.mk (below_step (by repeat (first | (with_reducible first | exact HB.out | apply below_alloc | apply pw_below_drewN | apply below_drew1 | refine below_set ?_ GE256.out) | exact HB.out)) hb);clear BK256;clear HB;have BK256:=n0_;have HB:=n1_;clear n0_ n1_;(try clear hb);have hcz20_0:w19.cell? ⟨gb256,0,none⟩ = some (.int .i64 t253):=(blk_cell BK256.out 0).trans rfl;have hcz20_1:w19.cell? ⟨gb256,1,none⟩ = some (.string t254):=(blk_cell BK256.out 1).trans rfl;have hfz20_0:=blk_frozen BK256.out 0;have hfz20_1:=blk_frozen BK256.out 1))
   go_meet
   case rel=>exact ⟨_,(true),(by first | rfl | (simp;done) | (simp [*];done)),H',⟨by first | omega | exact Nat.le_refl _⟩,⟨by (with_reducible repeat (first | refine blk_drewN ?_ _ | refine blk_drew ?_ | refine blk_alloc ?_ _));exact BK256.out⟩,⟨by repeat (first | (with_reducible first | exact HB.out | apply below_alloc | apply pw_below_drewN | apply below_drew1 | refine below_set ?_ GE256.out) | exact HB.out)⟩⟩
  rw [if_pos c12] at H
  have c12b0:((l1.length:Int) == t253) = true:=beq_iff_eq.mpr c12
  have c12b1:((l1.length:Int) != t253) = false:=bne_eq_false_iff_eq.mpr c12
  clear c12
  (first | rw [c12b0] | (simp only [i64_w,i32_w];rw [c12b0]) | skip)
  replace H:=Option.bind_eq_some_iff.mp H
  obtain ⟨t258,A130,H⟩:=H
  replace H:(card_Turn.j0 k a0 l1 l2 (!t258)) = some (r1,r2):=H
  have A13:=Aside0.mk A130
  clear A130
  have H':=Aside0.mk H
  clear H
  have hcz14_0:w7.cell? ⟨gb256,0,none⟩ = some (.int .i64 0):=(blk_cell BK256.out 0).trans rfl
  have hcz14_1:w7.cell? ⟨gb256,1,none⟩ = some (.string (⟨#[]⟩:ByteArray)):=(blk_cell BK256.out 1).trans rfl
  have hfz14_0:=blk_frozen BK256.out 0
  have hfz14_1:=blk_frozen BK256.out 1
  go_wp2_with (first | (go_at_call 71;(with_reducible refine (card_function_areVars.calls k t253 t254 _ _ l1 true _ ?side1 ?side2 A10.out).mono ?_);(case side1=>exact Kd.C_below HR1.out (by repeat (first | (with_reducible first | exact HB.out | apply below_alloc | apply pw_below_drewN | apply below_drew1 | refine below_set ?_ GE256.out) | exact HB.out)));(case side2=>exact HC1.out);rintro e w15 ⟨rfl,hb⟩;have n0_:=Aside0.mk (blk_below (g:=gb256) (o:=.cells #[.int .i64 t253,.string t254] 81 (0,0)) (by (with_reducible repeat (first | refine blk_drewN ?_ _ | refine blk_drew ?_ | refine blk_alloc ?_ _));refine blk_put (cs:=#[.int .i64 t253,.string (⟨#[]⟩:ByteArray)]) ?_ 1 _ rfl;(with_reducible repeat (first | refine blk_drewN ?_ _ | refine blk_drew ?_ | refine blk_alloc ?_ _));refine blk_put (cs:=#[.int .i64 0,.string (⟨#[]⟩:ByteArray)]) ?_ 0 _ rfl;(with_reducible repeat (first | refine blk_drewN ?_ _ | refine blk_drew ?_ | refine blk_alloc ?_ _));exact BK256.out) hb);have n1_:=Aside0.mk (below_step (by repeat (first | (with_reducible first | exact HB.out | apply below_alloc | apply pw_below_drewN | apply below_drew1 | refine below_set ?_ GE256.out) | exact HB.out)) hb);clear BK256;clear HB;have BK256:=n0_;have HB:=n1_;clear n0_ n1_;(try clear hb);have hcz16_0:w15.cell? ⟨gb256,0,none⟩ = some (.int .i64 t253):=(blk_cell BK256.out 0).trans rfl;have hcz16_1:w15.cell? ⟨gb256,1,none⟩ = some (.string t254):=(blk_cell BK256.out 1).trans rfl;have hfz16_0:=blk_frozen BK256.out 0;have hfz16_1:=blk_frozen BK256.out 1) | (go_at_call 71;(with_reducible refine (card_function_areVars.calls k t253 t254 _ _ l2 t258 _ ?side1 ?side2 A13.out).mono ?_);(case side1=>repeat (first | exact (Kd.C_below HR2.out HB.out) | (with_reducible refine Kd.C_alloc ?_ _) | (with_reducible refine Kd.C_drewN ?_ _) | (with_reducible refine Kd.C_drew ?_)));(case side2=>exact HC2.out);rintro e w17 ⟨rfl,hb⟩;have n0_:=Aside0.mk (blk_below (g:=gb256) (o:=.cells #[.int .i64 t253,.string t254] 81 (0,0)) (by (with_reducible repeat (first | refine blk_drewN ?_ _ | refine blk_drew ?_ | refine blk_alloc ?_ _));exact BK256.out) hb);have n1_:=Aside0.mk (below_step (by repeat (first | (with_reducible first | exact HB.out | apply below_alloc | apply pw_below_drewN | apply below_drew1 | refine below_set ?_ GE256.out) | exact HB.out)) hb);clear BK256;clear HB;have BK256:=n0_;have HB:=n1_;clear n0_ n1_;(try clear hb)))
  go_meet
  case rel=>exact ⟨_,(!t258),(by first | rfl | (simp;done) | (simp [*];done)),H',⟨by first | omega | exact Nat.le_refl _⟩,⟨by (with_reducible repeat (first | refine blk_drewN ?_ _ | refine blk_drew ?_ | refine blk_alloc ?_ _));exact BK256.out⟩,⟨by repeat (first | (with_reducible first | exact HB.out | apply below_alloc | apply pw_below_drewN | apply below_drew1 | refine below_set ?_ GE256.out) | exact HB.out)⟩⟩
 case rest =>
  clear HC5
  try clear c1
  try clear c2
  try clear p2
  try clear c3
  try clear c6
  try clear c9
  try clear c11
  try clear c12
  try clear c12b0
  try clear c12b1
  try clear hcz14_0
  try clear hcz14_1
  try clear hcz16_0
  try clear hcz16_1
  try clear hcz18_0
  try clear hcz18_1
  try clear hcz20_0
  try clear hcz20_1
  try clear hcz21_0
  try clear hcz21_1
  try clear hcz8_0
  try clear hcz8_1
  try clear hfz14_0
  try clear hfz14_1
  try clear hfz16_0
  try clear hfz16_1
  try clear hfz18_0
  try clear hfz18_1
  try clear hfz20_0
  try clear hfz20_1
  try clear hfz21_0
  try clear hfz21_1
  try clear hfz8_0
  try clear hfz8_1
  obtain ⟨kq,x41_4,rfl,HA,HJ4,BK256,HB⟩:=hcut
  cases kq with
  | zero=>exact absurd HA.out (by simp [card_Turn.j0])
  | succ kj4 =>
   have H:=HA.out
   clear HA
   simp only [card_Turn.j0] at H
   by_cases c23:x41_4 = true
   ·subst c23
    have H1:(some ((⟨#[]⟩:ByteArray),2)) = some (r1,r2):=by rw [if_pos rfl] at H;exact H
    clear H
    have H:=H1
    clear H1
    simp only [Option.some.injEq,Prod.mk.injEq] at H
    obtain ⟨rfl,rfl⟩:=H
    go_wp2
    go_ret2
    exact ⟨by first | rfl | (simp [errW_none,errW_some] <;> rfl) | (simp [*,errW_none,errW_some] <;> rfl),by repeat (first | (with_reducible first | exact HB.out | apply below_alloc | apply pw_below_drewN | apply below_drew1 | refine below_set ?_ GE256.out) | exact HB.out)⟩
   replace c23:=Bool.eq_false_iff.mpr c23
   subst c23
   have H1:(if 0 ≤ (a0.size:Int) then (if ((a0.size:Int):Int).toNat ≤ 281474976710656 then ((some (List.replicate ((a0.size:Int):Int).toNat 0:List Int)).bind fun y259=>(card_Turn.l0 kj4 a0 l1 l2 y259 (y259.length:Int) 0)) else (none)) else (none)) = some (r1,r2):=by rw [if_neg (show ¬ (false = true) by decide)] at H;exact H
   clear H
   have H:=H1
   clear H1
   by_cases c24:0 ≤ (a0.size:Int)
   case neg =>
    rw [if_neg c24] at H
    exact absurd H (by simp)
   rw [if_pos c24] at H
   have c24b0:=eq_true c24
   have c24b1:decide (0 ≤ (a0.size:Int)) = true:=decide_eq_true c24
   clear c24
   by_cases c25:((a0.size:Int):Int).toNat ≤ 281474976710656
   case neg =>
    rw [if_neg c25] at H
    exact absurd H (by simp)
   rw [if_pos c25] at H
   have c25b0:=eq_true c25
   have c25b1:decide (((a0.size:Int):Int).toNat ≤ 281474976710656) = true:=decide_eq_true c25
   clear c25
   obtain ⟨y259,hy259⟩:∃ y_:List Int,y_ = (List.replicate ((a0.size:Int):Int).toNat 0):=⟨_,rfl⟩
   replace H:(card_Turn.l0 kj4 a0 l1 l2 y259 (y259.length:Int) 0) = some (r1,r2):=by first | (rw [hy259];with_reducible exact H) | (have H2_:=(Option.bind_some _ _).symm.trans H;rw [hy259];with_reducible exact H2_) | (have H2_:=(Option.bind_some _ _).symm.trans H;with_reducible exact H2_) | with_reducible exact H | (rw [hy259];exact H) | exact H
   have Ny259:=Aside0.mk hy259
   clear hy259
   have H':=Aside0.mk H
   clear H
   go_wp2_with (first | ((with_reducible refine gate_dst (N:=44) rfl ?_);(try (refine gate_guard (by rfl) ?_;dsimp only));refine Kd.R_make (Kd.int .u8) _ 5 rfl (N:=44) rfl 42 _ _ rfl (a0.size:Int) rfl rfl Try.underlying42 (.int .u8 0) 1 info5 rfl (by decide) (by omega) 0 (ok:=fun _=>True) (okp:=fun _=>True) rfl (fun _ hk=>hk) trivial (of_decide_eq_true (by first | (with_reducible assumption) | assumption)) (Nat.le_trans (Nat.mul_le_mul_right _ (of_decide_eq_true (by first | (with_reducible assumption) | assumption):(a0.size:Int).toNat ≤ 281474976710656)) (by omega)) (Below.refl _ _) (Nat.le_refl _) ?_;intro v260 w26 ho27 hb hg_ hnew_;clear hg_ hnew_;(first | rw [← Ny259.out] at ho27 | (simp only [Int.reduceToNat] at ho27;rw [← Ny259.out] at ho27));have n0_:=Aside0.mk (Kd.R_lower ho27 (below_size (by repeat (first | (with_reducible first | exact HB.out | apply below_alloc | apply pw_below_drewN | apply below_drew1 | refine below_set ?_ GE256.out) | exact HB.out))));have n1_:=Aside0.mk (blk_below (g:=gb256) (o:=.cells #[.int .i64 t253,.string t254] 81 (0,0)) (by (with_reducible repeat (first | refine blk_drewN ?_ _ | refine blk_drew ?_ | refine blk_alloc ?_ _));exact BK256.out) hb);have n2_:=Aside0.mk (below_step (by repeat (first | (with_reducible first | exact HB.out | apply below_alloc | apply pw_below_drewN | apply below_drew1 | refine below_set ?_ GE256.out) | exact HB.out)) hb);clear BK256;clear HB;have HO261:=n0_;have BK256:=n1_;have HB:=n2_;clear n0_ n1_ n2_;clear hb ho27;obtain ⟨Ao28,co28,eo28⟩:=Kd.R_slice HO261.out;subst eo28))
   go_loopg [47] kj4 (fun kq v47 w'=>∃ (x10_2:List Int) (x47_2:Int),v47 = .int .i64 x47_2 ∧ Aside0 (card_Turn.l0 kq a0 l1 l2 x10_2 (y259.length:Int) x47_2 = some (r1,r2)) ∧ Aside0 (kq ≤ kj4) ∧ Aside0 (Kd.R (Kd.int .u8) 5 w' w.heap.size (fun _=>True) (.slice Ao28 y259.length co28) x10_2) ∧ Aside0 (w'.heap[gb256]? = some (.cells #[.int .i64 t253,.string t254] 81 (0,0))) ∧ Aside0 (Below w.heap.size w w'))
   case atStart=>exact ⟨(y259),(0),(by first | rfl | (simp;done) | (simp [*];done)),H',⟨Nat.le_refl _⟩,⟨by (with_reducible repeat (first | apply Kd.R_alloc | apply Kd.R_drewN | apply Kd.R_drew));exact HO261.out⟩,⟨by (with_reducible repeat (first | refine blk_drewN ?_ _ | refine blk_drew ?_ | refine blk_alloc ?_ _));exact BK256.out⟩,⟨by repeat (first | (with_reducible first | exact HB.out | apply below_alloc | apply pw_below_drewN | apply below_drew1 | refine below_set ?_ GE256.out) | exact HB.out)⟩⟩
   case round =>
    clear H'
    try clear c1
    try clear c2
    try clear p2
    try clear c3
    try clear c6
    try clear c9
    try clear c11
    try clear c12
    try clear c12b0
    try clear c12b1
    try clear c23
    try clear c24
    try clear c24b0
    try clear c24b1
    try clear c25
    try clear c25b0
    try clear c25b1
    try clear hcz14_0
    try clear hcz14_1
    try clear hcz16_0
    try clear hcz16_1
    try clear hcz18_0
    try clear hcz18_1
    try clear hcz20_0
    try clear hcz20_1
    try clear hcz21_0
    try clear hcz21_1
    try clear hcz8_0
    try clear hcz8_1
    try clear hfz14_0
    try clear hfz14_1
    try clear hfz16_0
    try clear hfz16_1
    try clear hfz18_0
    try clear hfz18_1
    try clear hfz20_0
    try clear hfz20_1
    try clear hfz21_0
    try clear hfz21_1
    try clear hfz8_0
    try clear hfz8_1
    try clear p2
    obtain ⟨x10_2,x47_2,rfl,HA,HK2,HO_10,BK256,HB⟩:=hrel
    have hl10_2:=(Kd.R_reads' HO_10.out).1
    rw [hl10_2] at HO_10
    (try simp only [hl10_2])
    (try simp only [hl10_2] at BK256)
    cases gk with
    | zero=>exact absurd HA.out (by simp [card_Turn.l0])
    | succ k2 =>
     have H:=HA.out
     clear HA
     simp only [card_Turn.l0] at H
     by_cases c29:x47_2 < (y259.length:Int)
     case neg =>
      rw [if_neg c29] at H
      have c29b0:decide (x47_2 < (y259.length:Int)) = false:=decide_eq_false c29
      (try rw [hl10_2] at c29b0)
      clear c29
      simp only [Option.some.injEq,Prod.mk.injEq] at H
      obtain ⟨rfl,rfl⟩:=H
      have hcv49:=own_string (P:=Try.prog) Try.underlying42 Try.underlying5 Try.underlying9 (Kd.own_of_R HO_10.out)
      go_wp2
      go_ret2
      exact ⟨by first | rfl | (simp [errW_none,errW_some] <;> rfl) | (simp [*,errW_none,errW_some] <;> rfl),by repeat (first | (with_reducible first | exact HB.out | apply below_alloc | apply pw_below_drewN | apply below_drew1 | refine below_set ?_ GE256.out) | exact HB.out)⟩
     rw [if_pos c29] at H
     have c29b0:decide (x47_2 < (y259.length:Int)) = true:=decide_eq_true c29
     (try rw [hl10_2] at c29b0)
     clear c29
     have H':=Aside0.mk H
     clear H
     go_wp2
     go_loopg [12,52] k2 (fun kq v12 v52 w'=>∃ (x12_3:Int) (x52_3:Int),v12 = .int .i64 x12_3 ∧ v52 = .int .i64 x52_3 ∧ Aside0 (card_Turn.l1 kq a0 l1 l2 x10_2 x47_2 x12_3 (y259.length:Int) x47_2 l1 (l1.length:Int) x52_3 = some (r1,r2)) ∧ Aside0 (kq ≤ k2) ∧ Aside0 (Kd.R (Kd.int .u8) 5 w' w.heap.size (fun _=>True) (.slice Ao28 x10_2.length co28) x10_2) ∧ Aside0 (w'.heap[gb256]? = some (.cells #[.int .i64 t253,.string t254] 81 (0,0))) ∧ Aside0 (Below w.heap.size w w'))
     case atStart=>exact ⟨(0),(0),(by first | rfl | (simp;done) | (simp [*];done)),(by first | rfl | (simp;done) | (simp [*];done)),H',⟨Nat.le_refl _⟩,⟨by (try simp only [hl10_2]);(with_reducible repeat (first | apply Kd.R_alloc | apply Kd.R_drewN | apply Kd.R_drew));exact HO_10.out⟩,⟨by (try simp only [hl10_2]);(with_reducible repeat (first | refine blk_drewN ?_ _ | refine blk_drew ?_ | refine blk_alloc ?_ _));exact BK256.out⟩,⟨by repeat (first | (with_reducible first | exact HB.out | apply below_alloc | apply pw_below_drewN | apply below_drew1 | refine below_set ?_ GE256.out) | exact HB.out)⟩⟩
     case round =>
      clear H'
      try clear c1
      try clear c2
      try clear p2
      try clear c3
      try clear c6
      try clear c9
      try clear c11
      try clear c12
      try clear c12b0
      try clear c12b1
      try clear c23
      try clear c24
      try clear c24b0
      try clear c24b1
      try clear c25
      try clear c25b0
      try clear c25b1
      try clear c29
      try clear c29b0
      try clear hcz14_0
      try clear hcz14_1
      try clear hcz16_0
      try clear hcz16_1
      try clear hcz18_0
      try clear hcz18_1
      try clear hcz20_0
      try clear hcz20_1
      try clear hcz21_0
      try clear hcz21_1
      try clear hcz8_0
      try clear hcz8_1
      try clear hfz14_0
      try clear hfz14_1
      try clear hfz16_0
      try clear hfz16_1
      try clear hfz18_0
      try clear hfz18_1
      try clear hfz20_0
      try clear hfz20_1
      try clear hfz21_0
      try clear hfz21_1
      try clear hfz8_0
      try clear hfz8_1
      try clear p2
      obtain ⟨x12_3,x52_3,rfl,rfl,HA,HK3,HO_10,BK256,HB⟩:=hrel
      cases gk with
      | zero=>exact absurd HA.out (by simp [card_Turn.l1])
      | succ k3 =>
       have H:=HA.out
       clear HA
       simp only [card_Turn.l1] at H
       by_cases c30:x52_3 < (l1.length:Int)
       case neg =>
        rw [if_neg c30] at H
        have c30b0:decide (x52_3 < (l1.length:Int)) = false:=decide_eq_false c30
        clear c30
        by_cases c41:0 ≤ x12_3
        case neg =>
         rw [if_neg c41] at H
         exact absurd H (by simp)
        rw [if_pos c41] at H
        have c41b0:decide (0 ≤ x12_3) = true:=decide_eq_true c41
        clear c41
        by_cases c42:x12_3 < (a0.size:Int)
        case neg =>
         rw [if_neg c42] at H
         exact absurd H (by simp)
        rw [if_pos c42] at H
        have c42b0:decide (x12_3 < (a0.size:Int)) = true:=decide_eq_true c42
        clear c42
        by_cases c44:0 ≤ x47_2
        case neg =>
         rw [if_neg c44] at H
         exact absurd H (by simp)
        rw [if_pos c44] at H
        have c44b0:decide (0 ≤ x47_2) = true:=decide_eq_true c44
        clear c44
        by_cases c45:x47_2 < (x10_2.length:Int)
        case neg =>
         rw [if_neg c45] at H
         exact absurd H (by simp)
        rw [if_pos c45] at H
        have c45b0:decide (x47_2 < (x10_2.length:Int)) = true:=decide_eq_true c45
        clear c45
        obtain ⟨y264,hy264⟩:∃ y_:List Int,y_ = (x10_2.set (x47_2:Int).toNat (bt a0 x12_3)):=⟨_,rfl⟩
        replace H:(card_Turn.l0 k3 a0 l1 l2 y264 (y259.length:Int) (wrap64 (x47_2 + 1))) = some (r1,r2):=by first | (rw [hy264];with_reducible exact H) | (have H2_:=(Option.bind_some _ _).symm.trans H;rw [hy264];with_reducible exact H2_) | (have H2_:=(Option.bind_some _ _).symm.trans H;with_reducible exact H2_) | with_reducible exact H | (rw [hy264];exact H) | exact H
        have Ny264:=Aside0.mk hy264
        clear hy264
        have H':=Aside0.mk H
        clear H
        have p43:0 ≤ (x12_3:Int):=of_decide_eq_true (by first | (with_reducible assumption) | assumption)
        have q43:x12_3 < (a0.size:Int):=of_decide_eq_true (by first | (with_reducible assumption) | assumption)
        have hx43:=bt_at a0 x12_3
        replace p43:=eq_true p43
        replace q43:=eq_true q43
        have p46:0 ≤ (x47_2:Int):=of_decide_eq_true (by first | (with_reducible assumption) | assumption)
        have q46:(x47_2:Int) < ((x10_2.length:Int):Int):=of_decide_eq_true (by first | (with_reducible assumption) | assumption)
        obtain ⟨go46,co46,eo46,gb46,gl46,cl46,HG46⟩:=Kd.R_form HO_10.out (by omega)
        (first | cases eo46 | (injection eo46 with ea_ en_ ec_;(first | subst ea_ | (injection ea_ with ea_;subst ea_));subst ec_;clear en_))
        have GB46:=Aside0.mk gb46
        have GG46:=Aside0.mk HG46
        clear gb46 gl46 HG46
        obtain ⟨hx46_0,hf46_0⟩:=Kd.R_celln 0 HO_10.out (x47_2:Int) p46 q46
        replace p46:=eq_true p46
        replace q46:=eq_true q46
        have HP47:=Kd.R_putg HO_10.out (x47_2:Int) (bt a0 x12_3)
        go_wp2_with (first | ((with_reducible refine gate_store (t:=5) (p:=77) rfl ?_);refine store_event (t:=5) (p:=77) (v:=?vo_w48) (w1:=(wr.setCell ⟨go46,(x47_2:Int).toNat,none⟩ (.int .u8 (bt a0 x12_3)))) ?hg ?ho ?hn ?hr ?_;(case ho=>rfl);(case hg=>rfl);(case hn=>rfl);(case hr=>first | (go_simp;done) | (go_simp;rfl));intro w48 hw;have hg:wr.grownBy w48 (some go46):=(by rw [hw];exact HP47.2);have hp_:Kd.R (Kd.int .u8) 5 w48 w.heap.size (fun _=>True) (.slice (some ⟨go46,0,none⟩) x10_2.length co28) y264:=(by rw [hw,Ny264.out];exact HP47.1);clear HP47;have n0_:=Aside0.mk (hp_);have n1_:=Aside0.mk (blk_grown (g:=gb256) (o:=.cells #[.int .i64 t253,.string t254] 81 (0,0)) (by (with_reducible repeat (first | refine blk_drewN ?_ _ | refine blk_drew ?_ | refine blk_alloc ?_ _));exact BK256.out) hg (Kd.R_ne HO_10.out BK256.out (by decide)));have n2_:=Aside0.mk ((by rw [hw];exact below_set (HB.out) GB46.out:Below w.heap.size w w48));clear HO_10;clear BK256;clear HB;have HO_10:=n0_;have BK256:=n1_;have HB:=n2_;clear n0_ n1_ n2_;clear hg hw hp_))
        (try simp only [← hl10_2])
        go_roundg k3
        case measure=>have:=HJ4.out;have:=HK2.out;have:=HK3.out;omega
        case rel=>exact ⟨(y264),(wrap64 (x47_2 + 1)),(by first | rfl | (simp;done) | (simp [*];done)),H',⟨by have:=HJ4.out;have:=HK2.out;have:=HK3.out;omega⟩,⟨by (try simp only [hl10_2]);(with_reducible repeat (first | apply Kd.R_alloc | apply Kd.R_drewN | apply Kd.R_drew));exact HO_10.out⟩,⟨by (try simp only [hl10_2]);(with_reducible repeat (first | refine blk_drewN ?_ _ | refine blk_drew ?_ | refine blk_alloc ?_ _));exact BK256.out⟩,⟨by repeat (first | (with_reducible first | exact HB.out | apply below_alloc | apply pw_below_drewN | apply below_drew1 | refine below_set ?_ GE256.out) | exact HB.out)⟩⟩
       rw [if_pos c30] at H
       have c30b0:decide (x52_3 < (l1.length:Int)) = true:=decide_eq_true c30
       clear c30
       by_cases c31:0 ≤ x52_3
       case neg =>
        rw [if_neg c31] at H
        exact absurd H (by simp)
       rw [if_pos c31] at H
       have c31b0:decide (0 ≤ x52_3) = true:=decide_eq_true c31
       clear c31
       by_cases c32:x52_3 < (l1.length:Int)
       case neg =>
        rw [if_neg c32] at H
        exact absurd H (by simp)
       rw [if_pos c32] at H
       have c32b0:decide (x52_3 < (l1.length:Int)) = true:=decide_eq_true c32
       clear c32
       have c33b0:=eq_true (of_decide_eq_true (by first | (with_reducible assumption) | assumption):0 ≤ x52_3)
       obtain ⟨ji34,hji34⟩:∃ j_:Int,(shr .i64 x47_2 x52_3) = j_:=⟨_,rfl⟩
       replace H:((slices_Contains_int_int.f k3 l2 x52_3).bind fun t263=>(if t263 = true then (if 0 ≤ (rd l1 x52_3) then (card_Turn.l1 k3 a0 l1 l2 x10_2 x47_2 (Go.bits .or .i64 x12_3 (shl .i64 (wrap64 (1 - (Go.bits .and .i64 (ji34) 1))) (rd l1 x52_3))) (y259.length:Int) x47_2 l1 (l1.length:Int) (wrap64 (x52_3 + 1))) else (none)) else (if 0 ≤ (rd l1 x52_3) then (card_Turn.l1 k3 a0 l1 l2 x10_2 x47_2 (Go.bits .or .i64 x12_3 (shl .i64 (Go.bits .and .i64 (ji34) 1) (rd l1 x52_3))) (y259.length:Int) x47_2 l1 (l1.length:Int) (wrap64 (x52_3 + 1))) else (none)))) = some (r1,r2):=by first | (rw [hji34] at H;exact H) | (simp only [hji34] at H ⊢;exact H)
       have hji34_:(x47_2 / 2 ^ min x52_3.toNat 64) = ji34:=hji34
       have hji34z:x52_3 ≤ 64 → (x47_2 / 2 ^ x52_3.toNat) = ji34:=shr_small hji34
       replace H:=Option.bind_eq_some_iff.mp H
       obtain ⟨t263,A350,H⟩:=H
       replace H:(if t263 = true then (if 0 ≤ (rd l1 x52_3) then (card_Turn.l1 k3 a0 l1 l2 x10_2 x47_2 (Go.bits .or .i64 x12_3 (shl .i64 (wrap64 (1 - (Go.bits .and .i64 (ji34) 1))) (rd l1 x52_3))) (y259.length:Int) x47_2 l1 (l1.length:Int) (wrap64 (x52_3 + 1))) else (none)) else (if 0 ≤ (rd l1 x52_3) then (card_Turn.l1 k3 a0 l1 l2 x10_2 x47_2 (Go.bits .or .i64 x12_3 (shl .i64 (Go.bits .and .i64 (ji34) 1) (rd l1 x52_3))) (y259.length:Int) x47_2 l1 (l1.length:Int) (wrap64 (x52_3 + 1))) else (none))) = some (r1,r2):=H
       have A35:=Aside0.mk A350
       clear A350
       by_cases c36:t263 = true
       case neg =>
        replace c36:=Bool.eq_false_iff.mpr c36
        subst c36
        have H1:(if 0 ≤ (rd l1 x52_3) then (card_Turn.l1 k3 a0 l1 l2 x10_2 x47_2 (Go.bits .or .i64 x12_3 (shl .i64 (Go.bits .and .i64 (ji34) 1) (rd l1 x52_3))) (y259.length:Int) x47_2 l1 (l1.length:Int) (wrap64 (x52_3 + 1))) else (none)) = some (r1,r2):=by rw [if_neg (show ¬ (false = true) by decide)] at H;exact H
        clear H
        have H:=H1
        clear H1
        by_cases c39:0 ≤ (rd l1 x52_3)
        case neg =>
         rw [if_neg c39] at H
         exact absurd H (by simp)
        rw [if_pos c39] at H
        have c39b0:=eq_true c39
        have c39b1:decide (0 ≤ (rd l1 x52_3)) = true:=decide_eq_true c39
        clear c39
        obtain ⟨ji40,hji40⟩:∃ j_:Int,(shl .i64 (Go.bits .and .i64 (ji34) 1) (rd l1 x52_3)) = j_:=⟨_,rfl⟩
        replace H:(card_Turn.l1 k3 a0 l1 l2 x10_2 x47_2 (Go.bits .or .i64 x12_3 (ji40)) (y259.length:Int) x47_2 l1 (l1.length:Int) (wrap64 (x52_3 + 1))) = some (r1,r2):=by first | (rw [hji40] at H;exact H) | (simp only [hji40] at H ⊢;exact H)
        (try rw [hji40] at A35)
        have hji40_:(IntKind.i64.wrap ((Go.bits .and .i64 (ji34) 1) * 2 ^ min (rd l1 x52_3).toNat 64)) = ji40:=hji40
        have hji40z:(rd l1 x52_3) ≤ 64 → (IntKind.i64.wrap ((Go.bits .and .i64 (ji34) 1) * 2 ^ (rd l1 x52_3).toNat)) = ji40:=shl_small hji40
        have hji40y:(wrap64 ((Go.bits .and .i64 (ji34) 1) * 2 ^ min (rd l1 x52_3).toNat 64)) = ji40:=(i64_w _).symm.trans hji40_
        have hji40x:(rd l1 x52_3) ≤ 64 → (wrap64 ((Go.bits .and .i64 (ji34) 1) * 2 ^ (rd l1 x52_3).toNat)) = ji40:=fun h_=>(i64_w _).symm.trans (hji40z h_)
        have H':=Aside0.mk H
        clear H
        have p262:0 ≤ (x52_3:Int):=of_decide_eq_true (by first | (with_reducible assumption) | assumption)
        have q262:x52_3 < (l1.length:Int):=of_decide_eq_true (by first | (with_reducible assumption) | assumption)
        obtain ⟨ad262,e262,hx262_0⟩:=Kd.at_int HR1.out x52_3 p262 q262
        cases e262
        replace hx262_0:=(HB.out.cell (World.block_lt_of_cell? w _ hx262_0)).trans hx262_0
        replace p262:=eq_true p262
        replace q262:=eq_true q262
        go_wp2_with (first | ((with_reducible refine gate_callee (f:=72) rfl ?_);refine goesL_ (some 63) rfl rfl Try.func72 (by kernel_rfl) rfl #[.slice A2 l2.length c2,.int .i64 x52_3] rfl (by (try simp only [List.map_toArray,List.map_cons,List.map_nil]);first | done | rfl | (simp only [List.length_drop,List.length_take];rfl)) ?_;(with_reducible refine (slices_Contains_int_int.calls k3 _ _ l2 x52_3 false _ ?side1 ?side2 A35.out).mono ?_);(case side1=>repeat (first | exact (Kd.C_below HR2.out HB.out) | (with_reducible refine Kd.C_alloc ?_ _) | (with_reducible refine Kd.C_drewN ?_ _) | (with_reducible refine Kd.C_drew ?_)));(case side2=>exact HC2.out);rintro e w' ⟨rfl,⟨nd,rfl⟩⟩;refine ⟨_,rfl,?_⟩))
        go_roundg k3
        case measure=>have:=HJ4.out;have:=HK2.out;have:=HK3.out;omega
        case rel=>exact ⟨(Go.bits .or .i64 x12_3 (ji40)),(wrap64 (x52_3 + 1)),(by first | rfl | (simp;done) | (simp only [← hji40] <;> (first | rfl | simp)) | (simp [*];done)),(by first | rfl | (simp;done) | (simp [*];done)),H',⟨by have:=HJ4.out;have:=HK2.out;have:=HK3.out;omega⟩,⟨by (try simp only [hl10_2]);(with_reducible repeat (first | apply Kd.R_alloc | apply Kd.R_drewN | apply Kd.R_drew));exact HO_10.out⟩,⟨by (try simp only [hl10_2]);(with_reducible repeat (first | refine blk_drewN ?_ _ | refine blk_drew ?_ | refine blk_alloc ?_ _));exact BK256.out⟩,⟨by repeat (first | (with_reducible first | exact HB.out | apply below_alloc | apply pw_below_drewN | apply below_drew1 | refine below_set ?_ GE256.out) | exact HB.out)⟩⟩
       subst c36
       have H1:(if 0 ≤ (rd l1 x52_3) then (card_Turn.l1 k3 a0 l1 l2 x10_2 x47_2 (Go.bits .or .i64 x12_3 (shl .i64 (wrap64 (1 - (Go.bits .and .i64 (ji34) 1))) (rd l1 x52_3))) (y259.length:Int) x47_2 l1 (l1.length:Int) (wrap64 (x52_3 + 1))) else (none)) = some (r1,r2):=by rw [if_pos rfl] at H;exact H
       clear H
       have H:=H1
       clear H1
       by_cases c37:0 ≤ (rd l1 x52_3)
       case neg =>
        rw [if_neg c37] at H
        exact absurd H (by simp)
       rw [if_pos c37] at H
       have c37b0:=eq_true c37
       have c37b1:decide (0 ≤ (rd l1 x52_3)) = true:=decide_eq_true c37
       clear c37
       obtain ⟨ji38,hji38⟩:∃ j_:Int,(shl .i64 (wrap64 (1 - (Go.bits .and .i64 (ji34) 1))) (rd l1 x52_3)) = j_:=⟨_,rfl⟩
       replace H:(card_Turn.l1 k3 a0 l1 l2 x10_2 x47_2 (Go.bits .or .i64 x12_3 (ji38)) (y259.length:Int) x47_2 l1 (l1.length:Int) (wrap64 (x52_3 + 1))) = some (r1,r2):=by first | (rw [hji38] at H;exact H) | (simp only [hji38] at H ⊢;exact H)
       (try rw [hji38] at A35)
       have hji38_:(IntKind.i64.wrap ((wrap64 (1 - (Go.bits .and .i64 (ji34) 1))) * 2 ^ min (rd l1 x52_3).toNat 64)) = ji38:=hji38
       have hji38z:(rd l1 x52_3) ≤ 64 → (IntKind.i64.wrap ((wrap64 (1 - (Go.bits .and .i64 (ji34) 1))) * 2 ^ (rd l1 x52_3).toNat)) = ji38:=shl_small hji38
       have hji38y:(wrap64 ((wrap64 (1 - (Go.bits .and .i64 (ji34) 1))) * 2 ^ min (rd l1 x52_3).toNat 64)) = ji38:=(i64_w _).symm.trans hji38_
       have hji38x:(rd l1 x52_3) ≤ 64 → (wrap64 ((wrap64 (1 - (Go.bits .and .i64 (ji34) 1))) * 2 ^ (rd l1 x52_3).toNat)) = ji38:=fun h_=>(i64_w _).symm.trans (hji38z h_)
       have H':=Aside0.mk H
       clear H
       have p262:0 ≤ (x52_3:Int):=of_decide_eq_true (by first | (with_reducible assumption) | assumption)
       have q262:x52_3 < (l1.length:Int):=of_decide_eq_true (by first | (with_reducible assumption) | assumption)
       obtain ⟨ad262,e262,hx262_0⟩:=Kd.at_int HR1.out x52_3 p262 q262
       cases e262
       replace hx262_0:=(HB.out.cell (World.block_lt_of_cell? w _ hx262_0)).trans hx262_0
       replace p262:=eq_true p262
       replace q262:=eq_true q262
       go_wp2_with (first | ((with_reducible refine gate_callee (f:=72) rfl ?_);refine goesL_ (some 63) rfl rfl Try.func72 (by kernel_rfl) rfl #[.slice A2 l2.length c2,.int .i64 x52_3] rfl (by (try simp only [List.map_toArray,List.map_cons,List.map_nil]);first | done | rfl | (simp only [List.length_drop,List.length_take];rfl)) ?_;(with_reducible refine (slices_Contains_int_int.calls k3 _ _ l2 x52_3 true _ ?side1 ?side2 A35.out).mono ?_);(case side1=>repeat (first | exact (Kd.C_below HR2.out HB.out) | (with_reducible refine Kd.C_alloc ?_ _) | (with_reducible refine Kd.C_drewN ?_ _) | (with_reducible refine Kd.C_drew ?_)));(case side2=>exact HC2.out);rintro e w' ⟨rfl,⟨nd,rfl⟩⟩;refine ⟨_,rfl,?_⟩))
       go_roundg k3
       case measure=>have:=HJ4.out;have:=HK2.out;have:=HK3.out;omega
       case rel=>exact ⟨(Go.bits .or .i64 x12_3 (ji38)),(wrap64 (x52_3 + 1)),(by first | rfl | (simp;done) | (simp only [← hji38] <;> (first | rfl | simp)) | (simp [*];done)),(by first | rfl | (simp;done) | (simp [*];done)),H',⟨by have:=HJ4.out;have:=HK2.out;have:=HK3.out;omega⟩,⟨by (try simp only [hl10_2]);(with_reducible repeat (first | apply Kd.R_alloc | apply Kd.R_drewN | apply Kd.R_drew));exact HO_10.out⟩,⟨by (try simp only [hl10_2]);(with_reducible repeat (first | refine blk_drewN ?_ _ | refine blk_drew ?_ | refine blk_alloc ?_ _));exact BK256.out⟩,⟨by repeat (first | (with_reducible first | exact HB.out | apply below_alloc | apply pw_below_drewN | apply below_drew1 | refine below_set ?_ GE256.out) | exact HB.out)⟩⟩
mutual
def numnahref01_Distinct.l0:Nat → List Int → Int → Int → Option (Bool)
 | 0,_,_,_=>none
 | k + 1,x0,x1,x5=>if x5 < (x0.length:Int) then (if 0 ≤ x5 then (if (rd x0 x5) < 0 then (numnahref01_Distinct.j1 k x0 x1 x5 true) else (numnahref01_Distinct.j1 k x0 x1 x5 (decide ((rd x0 x5) ≥ x1)))) else (none)) else (some true)
def numnahref01_Distinct.j1:Nat → List Int → Int → Int → Bool → Option (Bool)
 | 0,_,_,_,_=>none
 | k + 1,x0,x1,x5,x25=>if x25 = true then (some false) else (numnahref01_Distinct.l1 k x0 x1 x5 0)
def numnahref01_Distinct.l1:Nat → List Int → Int → Int → Int → Option (Bool)
 | 0,_,_,_,_=>none
 | k + 1,x0,x1,x5,x6=>if x6 < x5 then (if 0 ≤ x6 then (if x6 < (x0.length:Int) then (if 0 ≤ x5 then (if x5 < (x0.length:Int) then (if (rd x0 x6) = (rd x0 x5) then (some false) else (numnahref01_Distinct.l1 k x0 x1 x5 (wrap64 (x6 + 1)))) else (none)) else (none)) else (none)) else (none)) else (numnahref01_Distinct.l0 k x0 x1 (wrap64 (x5 + 1)))
end
def numnahref01_Distinct.f (k:Nat) (l0:List Int) (a1:Int):Option (Bool):=numnahref01_Distinct.l0 k l0 a1 0
theorem numnahref01_Distinct.mono_l:∀ k,(∀ y0 y1 y2,LeO (numnahref01_Distinct.l0 k y0 y1 y2) (numnahref01_Distinct.l0 (k + 1) y0 y1 y2)) ∧ (∀ y0 y1 y2 y3,LeO (numnahref01_Distinct.j1 k y0 y1 y2 y3) (numnahref01_Distinct.j1 (k + 1) y0 y1 y2 y3)) ∧ (∀ y0 y1 y2 y3,LeO (numnahref01_Distinct.l1 k y0 y1 y2 y3) (numnahref01_Distinct.l1 (k + 1) y0 y1 y2 y3))
 | 0=>⟨fun _ _ _ r h=>by simp [numnahref01_Distinct.l0] at h,fun _ _ _ _ r h=>by simp [numnahref01_Distinct.j1] at h,fun _ _ _ _ r h=>by simp [numnahref01_Distinct.l1] at h⟩
 | k + 1=>by
  obtain ⟨ih0,ih1,ih2⟩:=numnahref01_Distinct.mono_l k
  refine ⟨?_,?_,?_⟩
  ·intro y0 y1 y2
   unfold numnahref01_Distinct.l0
   repeat' first
   | (with_reducible exact ih0 _ _ _)
   | (with_reducible exact ih1 _ _ _ _)
   | (with_reducible exact ih2 _ _ _ _)
   | (with_reducible exact LeO.refl _)
   | (with_reducible exact LeO.none _)
   | (with_reducible refine LeO.ite ?_ ?_)
   | (with_reducible refine LeO.bind ?_ (fun _=>?_))
   | exact ih0 _ _ _
   | exact ih1 _ _ _ _
   | exact ih2 _ _ _ _
   | exact LeO.none _
   | refine LeO.ite ?_ ?_
   | refine LeO.bind ?_ (fun _=>?_)
  ·intro y0 y1 y2 y3
   unfold numnahref01_Distinct.j1
   repeat' first
   | (with_reducible exact ih0 _ _ _)
   | (with_reducible exact ih1 _ _ _ _)
   | (with_reducible exact ih2 _ _ _ _)
   | (with_reducible exact LeO.refl _)
   | (with_reducible exact LeO.none _)
   | (with_reducible refine LeO.ite ?_ ?_)
   | (with_reducible refine LeO.bind ?_ (fun _=>?_))
   | exact ih0 _ _ _
   | exact ih1 _ _ _ _
   | exact ih2 _ _ _ _
   | exact LeO.none _
   | refine LeO.ite ?_ ?_
   | refine LeO.bind ?_ (fun _=>?_)
  intro y0 y1 y2 y3
  unfold numnahref01_Distinct.l1
  repeat' first
  | (with_reducible exact ih0 _ _ _)
  | (with_reducible exact ih1 _ _ _ _)
  | (with_reducible exact ih2 _ _ _ _)
  | (with_reducible exact LeO.refl _)
  | (with_reducible exact LeO.none _)
  | (with_reducible refine LeO.ite ?_ ?_)
  | (with_reducible refine LeO.bind ?_ (fun _=>?_))
  | exact ih0 _ _ _
  | exact ih1 _ _ _ _
  | exact ih2 _ _ _ _
  | exact LeO.none _
  | refine LeO.ite ?_ ?_
  | refine LeO.bind ?_ (fun _=>?_)
theorem numnahref01_Distinct.mono:∀ a0 a1 k,LeO (numnahref01_Distinct.f k a0 a1) (numnahref01_Distinct.f (k + 1) a0 a1):=by
 intro a0 a1 k
 obtain ⟨ih0,ih1,ih2⟩:=numnahref01_Distinct.mono_l k
 unfold numnahref01_Distinct.f
 repeat' first
   | (with_reducible exact ih0 _ _ _)
   | (with_reducible exact ih1 _ _ _ _)
   | (with_reducible exact ih2 _ _ _ _)
   | (with_reducible exact LeO.refl _)
   | (with_reducible exact LeO.none _)
   | (with_reducible refine LeO.ite ?_ ?_)
   | (with_reducible refine LeO.bind ?_ (fun _=>?_))
   | exact ih0 _ _ _
   | exact ih1 _ _ _ _
   | exact ih2 _ _ _ _
   | exact LeO.none _
   | refine LeO.ite ?_ ?_
   | refine LeO.bind ?_ (fun _=>?_)
theorem numnahref01_Distinct.calls (k:Nat) (A0:Option Addr) (c0:Nat) (l0:List Int) (a1:Int) (r:Bool) (w:World) (hr0:Kd.C (Kd.int .i64) w A0 l0.length l0) (hc0:l0.length ≤ c0) (h:numnahref01_Distinct.f k l0 a1 = some r) :
  Calls Try.prog 38 #[.slice A0 l0.length c0,.int .i64 a1] w fun e w'=>e = .returned (.bool r) ∧ Drawn0 w w':=by
 have HR0:=Aside0.mk hr0
 have HC0:=Aside0.mk hc0
 clear hr0 hc0
 have H:(numnahref01_Distinct.l0 k l0 a1 0) = some r:=h
 clear h
 have H':=Aside0.mk H
 clear H
 go_enter Try.func38,Try.ntmps38
 go_wp2
 repeat (go_quiet (fail);try go_wp2)
 go_loopg [5] k (fun kq v5 w'=>∃ (x5_1:Int),v5 = .int .i64 x5_1 ∧ Aside0 (numnahref01_Distinct.l0 kq l0 a1 x5_1 = some r) ∧ Aside0 (kq ≤ k) ∧ Drawn0 w w')
 case atStart=>exact ⟨(0),(by first | rfl | (simp;done) | (simp [*];done)),H',⟨Nat.le_refl _⟩,by repeat (first | exact Drawn0.refl _ | apply Drawn0.step)⟩
 case round =>
  clear H'
  try clear p2
  obtain ⟨x5_1,rfl,HA,HK1,⟨m1,rfl⟩⟩:=hrel
  cases gk with
  | zero=>exact absurd HA.out (by simp [numnahref01_Distinct.l0])
  | succ k1 =>
   have H:=HA.out
   clear HA
   simp only [numnahref01_Distinct.l0] at H
   by_cases c3:x5_1 < (l0.length:Int)
   case neg =>
    rw [if_neg c3] at H
    have c3b0:decide (x5_1 < (l0.length:Int)) = false:=decide_eq_false c3
    clear c3
    obtain rfl:=Option.some.inj H
    go_wp2
    repeat (go_quiet (fail);try go_wp2)
    go_ret
    exact ⟨by first | rfl | (simp;done) | (simp [*];done),by repeat (first | exact Drawn0.refl _ | apply Drawn0.step)⟩
   rw [if_pos c3] at H
   have c3b0:decide (x5_1 < (l0.length:Int)) = true:=decide_eq_true c3
   clear c3
   have HC4:=Aside0.mk H
   clear H
   go_upto_region 4 with (fail)
   repeat (go_quiet (fail);go_upto_region 4 with (fail))
   go_cut [25] (fun v25 wc=>∃ (kq:Nat) (x25_3:Bool),v25 = .bool x25_3 ∧ Aside0 (numnahref01_Distinct.j1 kq l0 a1 x5_1 x25_3 = some r) ∧ Aside0 (kq ≤ k1) ∧ Drawn0 w wc)
   case first =>
    have H:=HC4.out
    clear HC4
    by_cases c5:0 ≤ x5_1
    case neg =>
     rw [if_neg c5] at H
     exact absurd H (by simp)
    rw [if_pos c5] at H
    have c5b0:decide (0 ≤ x5_1) = true:=decide_eq_true c5
    clear c5
    (first | rw [c5b0] | (simp only [i64_w,i32_w];rw [c5b0]) | skip)
    by_cases c6:(rd l0 x5_1) < 0
    ·rw [if_pos c6] at H
     have c6b0:decide ((rd l0 x5_1) < 0) = true:=decide_eq_true c6
     clear c6
     have H':=Aside0.mk H
     clear H
     have p265:0 ≤ (x5_1:Int):=of_decide_eq_true (by first | (with_reducible assumption) | assumption)
     have q265:x5_1 < (l0.length:Int):=of_decide_eq_true (by first | (with_reducible assumption) | assumption)
     obtain ⟨ad265,e265,hx265_0⟩:=Kd.at_int HR0.out x5_1 p265 q265
     cases e265
     replace p265:=eq_true p265
     replace q265:=eq_true q265
     go_wp2
     repeat (go_quiet (fail);try go_wp2)
     go_meet
     case rel=>exact ⟨_,(true),(by first | rfl | (simp;done) | (simp [*];done)),H',⟨by have:=HK1.out;first | omega | exact Nat.le_refl _⟩,by repeat (first | exact Drawn0.refl _ | apply Drawn0.step)⟩
    rw [if_neg c6] at H
    have c6b0:decide ((rd l0 x5_1) < 0) = false:=decide_eq_false c6
    clear c6
    have H':=Aside0.mk H
    clear H
    have p265:0 ≤ (x5_1:Int):=of_decide_eq_true (by first | (with_reducible assumption) | assumption)
    have q265:x5_1 < (l0.length:Int):=of_decide_eq_true (by first | (with_reducible assumption) | assumption)
    obtain ⟨ad265,e265,hx265_0⟩:=Kd.at_int HR0.out x5_1 p265 q265
    cases e265
    replace p265:=eq_true p265
    replace q265:=eq_true q265
    have p266:0 ≤ (x5_1:Int):=of_decide_eq_true (by first | (with_reducible assumption) | assumption)
    have q266:x5_1 < (l0.length:Int):=of_decide_eq_true (by first | (with_reducible assumption) | assumption)
    obtain ⟨ad266,e266,hx266_0⟩:=Kd.at_int HR0.out x5_1 p266 q266
    obtain rfl:ad265 = ad266:=(by injection e266)
    replace p266:=eq_true p266
    replace q266:=eq_true q266
    go_wp2
    repeat (go_quiet (fail);try go_wp2)
    go_meet
    case rel=>exact ⟨_,(decide ((rd l0 x5_1) ≥ a1)),(by first | rfl | (simp;done) | (simp [*];done)),H',⟨by have:=HK1.out;first | omega | exact Nat.le_refl _⟩,by repeat (first | exact Drawn0.refl _ | apply Drawn0.step)⟩
   case rest =>
    clear HC4
    try clear p2
    try clear q2
    try clear hx2
    try clear c3
    try clear c3b0
    try clear c5
    try clear c5b0
    try clear c6
    try clear c6b0
    try clear hx265_0
    try clear hx266_0
    try clear p2
    try clear p265
    try clear p266
    try clear q265
    try clear q266
    obtain ⟨kq,x25_3,rfl,HA,HJ3,⟨mc3,rfl⟩⟩:=hcut
    cases kq with
    | zero=>exact absurd HA.out (by simp [numnahref01_Distinct.j1])
    | succ kj3 =>
     have H:=HA.out
     clear HA
     simp only [numnahref01_Distinct.j1] at H
     by_cases c7:x25_3 = true
     ·subst c7
      have H1:(some false) = some r:=by rw [if_pos rfl] at H;exact H
      clear H
      have H:=H1
      clear H1
      obtain rfl:=Option.some.inj H
      go_wp2
      repeat (go_quiet (fail);try go_wp2)
      go_ret
      exact ⟨by first | rfl | (simp;done) | (simp [*];done),by repeat (first | exact Drawn0.refl _ | apply Drawn0.step)⟩
     replace c7:=Bool.eq_false_iff.mpr c7
     subst c7
     have H1:(numnahref01_Distinct.l1 kj3 l0 a1 x5_1 0) = some r:=by rw [if_neg (show ¬ (false = true) by decide)] at H;exact H
     clear H
     have H:=H1
     clear H1
     have H':=Aside0.mk H
     clear H
     go_wp2
     repeat (go_quiet (fail);try go_wp2)
     go_loopg [6] kj3 (fun kq v6 w'=>∃ (x6_3:Int),v6 = .int .i64 x6_3 ∧ Aside0 (numnahref01_Distinct.l1 kq l0 a1 x5_1 x6_3 = some r) ∧ Aside0 (kq ≤ kj3) ∧ Drawn0 w w')
     case atStart=>exact ⟨(0),(by first | rfl | (simp;done) | (simp [*];done)),H',⟨Nat.le_refl _⟩,by repeat (first | exact Drawn0.refl _ | apply Drawn0.step)⟩
     case round =>
      clear H'
      try clear p2
      try clear q2
      try clear hx2
      try clear c3
      try clear c3b0
      try clear c5
      try clear c5b0
      try clear c6
      try clear c6b0
      try clear c7
      try clear hx265_0
      try clear hx266_0
      try clear p2
      try clear p265
      try clear p266
      try clear q2
      try clear q265
      try clear q266
      obtain ⟨x6_3,rfl,HA,HK3,⟨m3,rfl⟩⟩:=hrel
      cases gk with
      | zero=>exact absurd HA.out (by simp [numnahref01_Distinct.l1])
      | succ k3 =>
       have H:=HA.out
       clear HA
       simp only [numnahref01_Distinct.l1] at H
       by_cases c8:x6_3 < x5_1
       case neg =>
        rw [if_neg c8] at H
        have c8b0:decide (x6_3 < x5_1) = false:=decide_eq_false c8
        clear c8
        have H':=Aside0.mk H
        clear H
        go_wp2
        repeat (go_quiet (fail);try go_wp2)
        go_roundg k3
        case measure=>have:=HK1.out;have:=HJ3.out;have:=HK3.out;omega
        case rel=>exact ⟨(wrap64 (x5_1 + 1)),(by first | rfl | (simp;done) | (simp [*];done)),H',⟨by have:=HK1.out;have:=HJ3.out;have:=HK3.out;omega⟩,by repeat (first | exact Drawn0.refl _ | apply Drawn0.step)⟩
       rw [if_pos c8] at H
       have c8b0:decide (x6_3 < x5_1) = true:=decide_eq_true c8
       clear c8
       by_cases c9:0 ≤ x6_3
       case neg =>
        rw [if_neg c9] at H
        exact absurd H (by simp)
       rw [if_pos c9] at H
       have c9b0:decide (0 ≤ x6_3) = true:=decide_eq_true c9
       clear c9
       by_cases c10:x6_3 < (l0.length:Int)
       case neg =>
        rw [if_neg c10] at H
        exact absurd H (by simp)
       rw [if_pos c10] at H
       have c10b0:decide (x6_3 < (l0.length:Int)) = true:=decide_eq_true c10
       clear c10
       by_cases c11:0 ≤ x5_1
       case neg =>
        rw [if_neg c11] at H
        exact absurd H (by simp)
       rw [if_pos c11] at H
       have c11b0:decide (0 ≤ x5_1) = true:=decide_eq_true c11
       clear c11
       by_cases c12:x5_1 < (l0.length:Int)
       case neg =>
        rw [if_neg c12] at H
        exact absurd H (by simp)
       rw [if_pos c12] at H
       have c12b0:decide (x5_1 < (l0.length:Int)) = true:=decide_eq_true c12
       clear c12
       by_cases c13:(rd l0 x6_3) = (rd l0 x5_1)
       ·rw [if_pos c13] at H
        have c13b0:((rd l0 x6_3) == (rd l0 x5_1)) = true:=beq_iff_eq.mpr c13
        have c13b1:((rd l0 x6_3) != (rd l0 x5_1)) = false:=bne_eq_false_iff_eq.mpr c13
        clear c13
        obtain rfl:=Option.some.inj H
        have p267:0 ≤ (x6_3:Int):=of_decide_eq_true (by first | (with_reducible assumption) | assumption)
        have q267:x6_3 < (l0.length:Int):=of_decide_eq_true (by first | (with_reducible assumption) | assumption)
        obtain ⟨ad267,e267,hx267_0⟩:=Kd.at_int HR0.out x6_3 p267 q267
        cases e267
        replace p267:=eq_true p267
        replace q267:=eq_true q267
        have p268:0 ≤ (x5_1:Int):=of_decide_eq_true (by first | (with_reducible assumption) | assumption)
        have q268:x5_1 < (l0.length:Int):=of_decide_eq_true (by first | (with_reducible assumption) | assumption)
        obtain ⟨ad268,e268,hx268_0⟩:=Kd.at_int HR0.out x5_1 p268 q268
        obtain rfl:ad267 = ad268:=(by injection e268)
        replace p268:=eq_true p268
        replace q268:=eq_true q268
        go_wp2
        repeat (go_quiet (fail);try go_wp2)
        go_ret
        exact ⟨by first | rfl | (simp;done) | (simp [*];done),by repeat (first | exact Drawn0.refl _ | apply Drawn0.step)⟩
       rw [if_neg c13] at H
       have c13b0:((rd l0 x6_3) == (rd l0 x5_1)) = false:=beq_eq_false_iff_ne.mpr c13
       have c13b1:((rd l0 x6_3) != (rd l0 x5_1)) = true:=bne_iff_ne.mpr c13
       have H':=Aside0.mk H
       clear H
       have p267:0 ≤ (x6_3:Int):=of_decide_eq_true (by first | (with_reducible assumption) | assumption)
       have q267:x6_3 < (l0.length:Int):=of_decide_eq_true (by first | (with_reducible assumption) | assumption)
       obtain ⟨ad267,e267,hx267_0⟩:=Kd.at_int HR0.out x6_3 p267 q267
       cases e267
       replace p267:=eq_true p267
       replace q267:=eq_true q267
       have p268:0 ≤ (x5_1:Int):=of_decide_eq_true (by first | (with_reducible assumption) | assumption)
       have q268:x5_1 < (l0.length:Int):=of_decide_eq_true (by first | (with_reducible assumption) | assumption)
       obtain ⟨ad268,e268,hx268_0⟩:=Kd.at_int HR0.out x5_1 p268 q268
       obtain rfl:ad267 = ad268:=(by injection e268)
       replace p268:=eq_true p268
       replace q268:=eq_true q268
       go_wp2
       repeat (go_quiet (fail);try go_wp2)
       go_roundg k3
       case measure=>have:=HK1.out;have:=HJ3.out;have:=HK3.out;omega
       case rel=>exact ⟨(wrap64 (x6_3 + 1)),(by first | rfl | (simp;done) | (simp [*];done)),H',⟨by have:=HK1.out;have:=HJ3.out;have:=HK3.out;omega⟩,by repeat (first | exact Drawn0.refl _ | apply Drawn0.step)⟩
mutual
def numnahref01_Turn.l0:Nat → ByteArray → List Int → List Int → Int → Int → Int → Option (ByteArray)
 | 0,_,_,_,_,_,_=>none
 | k + 1,x0,x1,x2,x7,x8,x9=>if x9 < (x2.length:Int) then (if 0 ≤ x9 then (if 0 ≤ (rd x2 x9) then (numnahref01_Turn.l0 k x0 x1 x2 x7 (wrap64 (x8 + (shl .i64 1 (rd x2 x9)))) (wrap64 (x9 + 1))) else (none)) else (none)) else (numnahref01_Turn.l1 k x0 x1 x7 x8 ([]:List Int) 0)
def numnahref01_Turn.l1:Nat → ByteArray → List Int → Int → Int → List Int → Int → Option (ByteArray)
 | 0,_,_,_,_,_,_=>none
 | k + 1,x0,x1,x7,x8,x10,x11=>if x11 < (x0.size:Int) then (numnahref01_Turn.l2 k x0 x1 x7 x8 x10 x11 0 0) else (some (strOfNums x10))
def numnahref01_Turn.l2:Nat → ByteArray → List Int → Int → Int → List Int → Int → Int → Int → Option (ByteArray)
 | 0,_,_,_,_,_,_,_,_=>none
 | k + 1,x0,x1,x7,x8,x10,x11,x12,x13=>if x13 < x7 then (if 0 ≤ x13 then (if x13 < (x1.length:Int) then (if 0 ≤ (rd x1 x13) then (numnahref01_Turn.l2 k x0 x1 x7 x8 x10 x11 (wrap64 (x12 + (shl .i64 (Int.tmod (shr .i64 (Go.bits .xor .i64 x11 x8) x13) 2) (rd x1 x13)))) (wrap64 (x13 + 1))) else (none)) else (none)) else (none)) else (if 0 ≤ x12 then (if x12 < (x0.size:Int) then (if x10.length < 140737488355328 then (numnahref01_Turn.l1 k x0 x1 x7 x8 (x10 ++ [bt x0 x12]) (wrap64 (x11 + 1))) else (none)) else (none)) else (none))
end
def numnahref01_Turn.f (k:Nat) (a0:ByteArray) (l1:List Int) (l2:List Int):Option (ByteArray):=(numnahref01_Vars.f k a0).bind fun t269=>(numnahref01_Turn.l0 k a0 l1 l2 t269 0 0)
theorem numnahref01_Turn.mono_l:∀ k,(∀ y0 y1 y2 y3 y4 y5,LeO (numnahref01_Turn.l0 k y0 y1 y2 y3 y4 y5) (numnahref01_Turn.l0 (k + 1) y0 y1 y2 y3 y4 y5)) ∧ (∀ y0 y1 y2 y3 y4 y5,LeO (numnahref01_Turn.l1 k y0 y1 y2 y3 y4 y5) (numnahref01_Turn.l1 (k + 1) y0 y1 y2 y3 y4 y5)) ∧ (∀ y0 y1 y2 y3 y4 y5 y6 y7,LeO (numnahref01_Turn.l2 k y0 y1 y2 y3 y4 y5 y6 y7) (numnahref01_Turn.l2 (k + 1) y0 y1 y2 y3 y4 y5 y6 y7))
 | 0=>⟨fun _ _ _ _ _ _ r h=>by simp [numnahref01_Turn.l0] at h,fun _ _ _ _ _ _ r h=>by simp [numnahref01_Turn.l1] at h,fun _ _ _ _ _ _ _ _ r h=>by simp [numnahref01_Turn.l2] at h⟩
 | k + 1=>by
  obtain ⟨ih0,ih1,ih2⟩:=numnahref01_Turn.mono_l k
  refine ⟨?_,?_,?_⟩
  ·intro y0 y1 y2 y3 y4 y5
   unfold numnahref01_Turn.l0
   repeat' first
   | (with_reducible exact ih0 _ _ _ _ _ _)
   | (with_reducible exact ih1 _ _ _ _ _ _)
   | (with_reducible exact ih2 _ _ _ _ _ _ _ _)
   | (with_reducible exact numnahref01_Vars.mono _ _)
   | (with_reducible exact LeO.refl _)
   | (with_reducible exact LeO.none _)
   | (with_reducible refine LeO.ite ?_ ?_)
   | (with_reducible refine LeO.bind ?_ (fun _=>?_))
   | exact ih0 _ _ _ _ _ _
   | exact ih1 _ _ _ _ _ _
   | exact ih2 _ _ _ _ _ _ _ _
   | exact numnahref01_Vars.mono _ _
   | exact LeO.none _
   | refine LeO.ite ?_ ?_
   | refine LeO.bind ?_ (fun _=>?_)
  ·intro y0 y1 y2 y3 y4 y5
   unfold numnahref01_Turn.l1
   repeat' first
   | (with_reducible exact ih0 _ _ _ _ _ _)
   | (with_reducible exact ih1 _ _ _ _ _ _)
   | (with_reducible exact ih2 _ _ _ _ _ _ _ _)
   | (with_reducible exact numnahref01_Vars.mono _ _)
   | (with_reducible exact LeO.refl _)
   | (with_reducible exact LeO.none _)
   | (with_reducible refine LeO.ite ?_ ?_)
   | (with_reducible refine LeO.bind ?_ (fun _=>?_))
   | exact ih0 _ _ _ _ _ _
   | exact ih1 _ _ _ _ _ _
   | exact ih2 _ _ _ _ _ _ _ _
   | exact numnahref01_Vars.mono _ _
   | exact LeO.none _
   | refine LeO.ite ?_ ?_
   | refine LeO.bind ?_ (fun _=>?_)
  intro y0 y1 y2 y3 y4 y5 y6 y7
  unfold numnahref01_Turn.l2
  repeat' first
  | (with_reducible exact ih0 _ _ _ _ _ _)
  | (with_reducible exact ih1 _ _ _ _ _ _)
  | (with_reducible exact ih2 _ _ _ _ _ _ _ _)
  | (with_reducible exact numnahref01_Vars.mono _ _)
  | (with_reducible exact LeO.refl _)
  | (with_reducible exact LeO.none _)
  | (with_reducible refine LeO.ite ?_ ?_)
  | (with_reducible refine LeO.bind ?_ (fun _=>?_))
  | exact ih0 _ _ _ _ _ _
  | exact ih1 _ _ _ _ _ _
  | exact ih2 _ _ _ _ _ _ _ _
  | exact numnahref01_Vars.mono _ _
  | exact LeO.none _
  | refine LeO.ite ?_ ?_
  | refine LeO.bind ?_ (fun _=>?_)
theorem numnahref01_Turn.mono:∀ a0 a1 a2 k,LeO (numnahref01_Turn.f k a0 a1 a2) (numnahref01_Turn.f (k + 1) a0 a1 a2):=by
 intro a0 a1 a2 k
 obtain ⟨ih0,ih1,ih2⟩:=numnahref01_Turn.mono_l k
 unfold numnahref01_Turn.f
 repeat' first
   | (with_reducible exact ih0 _ _ _ _ _ _)
   | (with_reducible exact ih1 _ _ _ _ _ _)
   | (with_reducible exact ih2 _ _ _ _ _ _ _ _)
   | (with_reducible exact numnahref01_Vars.mono _ _)
   | (with_reducible exact LeO.refl _)
   | (with_reducible exact LeO.none _)
   | (with_reducible refine LeO.ite ?_ ?_)
   | (with_reducible refine LeO.bind ?_ (fun _=>?_))
   | exact ih0 _ _ _ _ _ _
   | exact ih1 _ _ _ _ _ _
   | exact ih2 _ _ _ _ _ _ _ _
   | exact numnahref01_Vars.mono _ _
   | exact LeO.none _
   | refine LeO.ite ?_ ?_
   | refine LeO.bind ?_ (fun _=>?_)
theorem numnahref01_Turn.calls (k:Nat) (a0:ByteArray) (A1:Option Addr) (c1:Nat) (l1:List Int) (A2:Option Addr) (c2:Nat) (l2:List Int) (r:ByteArray) (w:World) (hr1:Kd.C (Kd.int .i64) w A1 l1.length l1) (hc1:l1.length ≤ c1) (hr2:Kd.C (Kd.int .i64) w A2 l2.length l2) (hc2:l2.length ≤ c2) (h:numnahref01_Turn.f k a0 l1 l2 = some r) :
  Calls Try.prog 39 #[.string a0,.slice A1 l1.length c1,.slice A2 l2.length c2] w fun e w'=>e = .returned (.string r) ∧ Below w.heap.size w w':=by
 have HR1:=Aside0.mk hr1
 have HC1:=Aside0.mk hc1
 clear hr1 hc1
 have HR2:=Aside0.mk hr2
 have HC2:=Aside0.mk hc2
 clear hr2 hc2
 have HB:=Aside0.mk (Below.refl w.heap.size w)
 have H:((numnahref01_Vars.f k a0).bind fun t269=>(numnahref01_Turn.l0 k a0 l1 l2 t269 0 0)) = some r:=h
 clear h
 replace H:=Option.bind_eq_some_iff.mp H
 obtain ⟨t269,A40,H⟩:=H
 replace H:(numnahref01_Turn.l0 k a0 l1 l2 t269 0 0) = some r:=H
 have A4:=Aside0.mk A40
 clear A40
 have H':=Aside0.mk H
 clear H
 go_enter Try.func39,Try.ntmps39
 go_wp2_with (first | (go_at_call 24;(with_reducible refine (numnahref01_Vars.calls k a0 t269 _ A4.out).mono ?_);rintro e w' ⟨rfl,⟨nd,rfl⟩⟩;(try first | exact ⟨rfl,_,World.drewN_drewN _ _ _⟩ | exact ⟨rfl,_,Eq.trans (World.drewN_drewN _ _ _) (congrArg (World.drewN _) (Nat.add_assoc _ _ _))⟩)))
 repeat (go_quiet (first | (go_at_call 24;(with_reducible refine (numnahref01_Vars.calls k a0 t269 _ A4.out).mono ?_);rintro e w' ⟨rfl,⟨nd,rfl⟩⟩;(try first | exact ⟨rfl,_,World.drewN_drewN _ _ _⟩ | exact ⟨rfl,_,Eq.trans (World.drewN_drewN _ _ _) (congrArg (World.drewN _) (Nat.add_assoc _ _ _))⟩)));try go_wp2_with (first | (go_at_call 24;(with_reducible refine (numnahref01_Vars.calls k a0 t269 _ A4.out).mono ?_);rintro e w' ⟨rfl,⟨nd,rfl⟩⟩;(try first | exact ⟨rfl,_,World.drewN_drewN _ _ _⟩ | exact ⟨rfl,_,Eq.trans (World.drewN_drewN _ _ _) (congrArg (World.drewN _) (Nat.add_assoc _ _ _))⟩))))
 go_loopg [8,9] k (fun kq v8 v9 w'=>∃ (x8_1:Int) (x9_1:Int),v8 = .int .i64 x8_1 ∧ v9 = .int .i64 x9_1 ∧ Aside0 (numnahref01_Turn.l0 kq a0 l1 l2 t269 x8_1 x9_1 = some r) ∧ Aside0 (kq ≤ k) ∧ Aside0 (Below w.heap.size w w'))
 case atStart=>exact ⟨(0),(0),(by first | rfl | (simp;done) | (simp [*];done)),(by first | rfl | (simp;done) | (simp [*];done)),H',⟨Nat.le_refl _⟩,⟨by repeat (first | (with_reducible first | exact HB.out | apply below_alloc | apply pw_below_drewN | apply below_drew1) | exact HB.out)⟩⟩
 case round =>
  clear H'
  try clear c1
  try clear c2
  try clear p2
  try clear c3
  obtain ⟨x8_1,x9_1,rfl,rfl,HA,HK1,HB⟩:=hrel
  cases gk with
  | zero=>exact absurd HA.out (by simp [numnahref01_Turn.l0])
  | succ k1 =>
   have H:=HA.out
   clear HA
   simp only [numnahref01_Turn.l0] at H
   by_cases c5:x9_1 < (l2.length:Int)
   ·rw [if_pos c5] at H
    have c5b0:decide (x9_1 < (l2.length:Int)) = true:=decide_eq_true c5
    clear c5
    by_cases c6:0 ≤ x9_1
    case neg =>
     rw [if_neg c6] at H
     exact absurd H (by simp)
    rw [if_pos c6] at H
    have c6b0:decide (0 ≤ x9_1) = true:=decide_eq_true c6
    clear c6
    by_cases c7:0 ≤ (rd l2 x9_1)
    case neg =>
     rw [if_neg c7] at H
     exact absurd H (by simp)
    rw [if_pos c7] at H
    have c7b0:=eq_true c7
    have c7b1:decide (0 ≤ (rd l2 x9_1)) = true:=decide_eq_true c7
    clear c7
    obtain ⟨ji8,hji8⟩:∃ j_:Int,(shl .i64 1 (rd l2 x9_1)) = j_:=⟨_,rfl⟩
    replace H:(numnahref01_Turn.l0 k1 a0 l1 l2 t269 (wrap64 (x8_1 + (ji8))) (wrap64 (x9_1 + 1))) = some r:=by first | (rw [hji8] at H;exact H) | (simp only [hji8] at H ⊢;exact H)
    have hji8_:(IntKind.i64.wrap (1 * 2 ^ min (rd l2 x9_1).toNat 64)) = ji8:=hji8
    have hji8z:(rd l2 x9_1) ≤ 64 → (IntKind.i64.wrap (1 * 2 ^ (rd l2 x9_1).toNat)) = ji8:=shl_small hji8
    have hji8u:(IntKind.i64.wrap (2 ^ min (rd l2 x9_1).toNat 64)) = ji8:=by have h_:=hji8_;rw [Int.one_mul] at h_;exact h_
    have hji8v:(rd l2 x9_1) ≤ 64 → (IntKind.i64.wrap (2 ^ (rd l2 x9_1).toNat)) = ji8:=fun hle_=>by have h_:=hji8z hle_;rw [Int.one_mul] at h_;exact h_
    have hji8y:(wrap64 (1 * 2 ^ min (rd l2 x9_1).toNat 64)) = ji8:=(i64_w _).symm.trans hji8_
    have hji8x:(rd l2 x9_1) ≤ 64 → (wrap64 (1 * 2 ^ (rd l2 x9_1).toNat)) = ji8:=fun h_=>(i64_w _).symm.trans (hji8z h_)
    have H':=Aside0.mk H
    clear H
    have p270:0 ≤ (x9_1:Int):=of_decide_eq_true (by first | (with_reducible assumption) | assumption)
    have q270:x9_1 < (l2.length:Int):=of_decide_eq_true (by first | (with_reducible assumption) | assumption)
    obtain ⟨ad270,e270,hx270_0⟩:=Kd.at_int HR2.out x9_1 p270 q270
    cases e270
    replace hx270_0:=(HB.out.cell (World.block_lt_of_cell? w _ hx270_0)).trans hx270_0
    replace p270:=eq_true p270
    replace q270:=eq_true q270
    go_wp2
    repeat (go_quiet (fail);try go_wp2)
    go_roundg k1
    case measure=>have:=HK1.out;omega
    case rel=>exact ⟨(wrap64 (x8_1 + (ji8))),(wrap64 (x9_1 + 1)),(by first | rfl | (simp;done) | (simp only [← hji8] <;> (first | rfl | simp)) | (simp [*];done)),(by first | rfl | (simp;done) | (simp [*];done)),H',⟨by have:=HK1.out;omega⟩,⟨by repeat (first | (with_reducible first | exact HB.out | apply below_alloc | apply pw_below_drewN | apply below_drew1) | exact HB.out)⟩⟩
   rw [if_neg c5] at H
   have c5b0:decide (x9_1 < (l2.length:Int)) = false:=decide_eq_false c5
   clear c5
   have H':=Aside0.mk H
   clear H
   go_wp2
   repeat (go_quiet (fail);try go_wp2)
   go_loopg [10,11] k1 (fun kq v10 v11 w'=>∃ (x10_2:List Int) (x11_2:Int),v11 = .int .i64 x11_2 ∧ Aside0 (numnahref01_Turn.l1 kq a0 l1 t269 x8_1 x10_2 x11_2 = some r) ∧ Aside0 (kq ≤ k1) ∧ Aside0 (Kd.R (Kd.int .u8) 5 w' w.heap.size (fun _=>True) v10 x10_2) ∧ Aside0 (Below w.heap.size w w'))
   case atStart=>exact ⟨(([]:List Int)),(0),(by first | rfl | (simp;done) | (simp [*];done)),H',⟨Nat.le_refl _⟩,⟨by first | exact Kd.R_nil _ _ _ _ _ | exact Kd.N_nil _ _ _ _ _ | exact Kd.V_nil _ _ _ _ _ | exact Kd.Q_nil _ _ _ _ _ | exact Kd.S_nil _ _ _ _ _⟩,⟨by repeat (first | (with_reducible first | exact HB.out | apply below_alloc | apply pw_below_drewN | apply below_drew1) | exact HB.out)⟩⟩
   case round =>
    clear H'
    try clear c1
    try clear c2
    try clear p2
    try clear q2
    try clear hx2
    try clear c3
    try clear c5
    try clear c5b0
    try clear c6
    try clear c6b0
    try clear p6
    try clear c7
    try clear c7b0
    try clear c7b1
    try clear hx270_0
    try clear p2
    try clear p270
    try clear q270
    obtain ⟨x10_2,x11_2,rfl,HA,HK2,HO_10,HB⟩:=hrel
    cases gk with
    | zero=>exact absurd HA.out (by simp [numnahref01_Turn.l1])
    | succ k2 =>
     have H:=HA.out
     clear HA
     simp only [numnahref01_Turn.l1] at H
     by_cases c9:x11_2 < (a0.size:Int)
     case neg =>
      rw [if_neg c9] at H
      have c9b0:decide (x11_2 < (a0.size:Int)) = false:=decide_eq_false c9
      clear c9
      obtain rfl:=Option.some.inj H
      have hcv21:=own_string (P:=Try.prog) Try.underlying42 Try.underlying5 Try.underlying9 (Kd.own_of_R HO_10.out)
      go_wp2
      repeat (go_quiet (fail);try go_wp2)
      go_ret
      exact ⟨by first | rfl | (simp [errW_none,errW_some] <;> rfl) | (simp [*,errW_none,errW_some] <;> rfl),by repeat (first | (with_reducible first | exact HB.out | apply below_alloc | apply pw_below_drewN | apply below_drew1) | exact HB.out)⟩
     rw [if_pos c9] at H
     have c9b0:decide (x11_2 < (a0.size:Int)) = true:=decide_eq_true c9
     clear c9
     have H':=Aside0.mk H
     clear H
     go_wp2
     repeat (go_quiet (fail);try go_wp2)
     go_loopg [12,13] k2 (fun kq v12 v13 w'=>∃ (x12_3:Int) (x13_3:Int),v12 = .int .i64 x12_3 ∧ v13 = .int .i64 x13_3 ∧ Aside0 (numnahref01_Turn.l2 kq a0 l1 t269 x8_1 x10_2 x11_2 x12_3 x13_3 = some r) ∧ Aside0 (kq ≤ k2) ∧ Aside0 (Kd.R (Kd.int .u8) 5 w' w.heap.size (fun _=>True) u10 x10_2) ∧ Aside0 (Below w.heap.size w w'))
     case atStart=>exact ⟨(0),(0),(by first | rfl | (simp;done) | (simp [*];done)),(by first | rfl | (simp;done) | (simp [*];done)),H',⟨Nat.le_refl _⟩,⟨by (with_reducible repeat (first | apply Kd.R_alloc | apply Kd.R_drewN | apply Kd.R_drew));exact HO_10.out⟩,⟨by repeat (first | (with_reducible first | exact HB.out | apply below_alloc | apply pw_below_drewN | apply below_drew1) | exact HB.out)⟩⟩
     case round =>
      clear H'
      try clear c1
      try clear c2
      try clear p2
      try clear q2
      try clear hx2
      try clear c3
      try clear c5
      try clear c5b0
      try clear c6
      try clear c6b0
      try clear p6
      try clear c7
      try clear c7b0
      try clear c7b1
      try clear c9
      try clear c9b0
      try clear hx270_0
      try clear p2
      try clear p270
      try clear p6
      try clear q2
      try clear q270
      obtain ⟨x12_3,x13_3,rfl,rfl,HA,HK3,HO_10,HB⟩:=hrel
      cases gk with
      | zero=>exact absurd HA.out (by simp [numnahref01_Turn.l2])
      | succ k3 =>
       have H:=HA.out
       clear HA
       simp only [numnahref01_Turn.l2] at H
       by_cases c10:x13_3 < t269
       ·rw [if_pos c10] at H
        have c10b0:decide (x13_3 < t269) = true:=decide_eq_true c10
        clear c10
        by_cases c11:0 ≤ x13_3
        case neg =>
         rw [if_neg c11] at H
         exact absurd H (by simp)
        rw [if_pos c11] at H
        have c11b0:=eq_true c11
        have c11b1:decide (0 ≤ x13_3) = true:=decide_eq_true c11
        clear c11
        obtain ⟨ji12,hji12⟩:∃ j_:Int,(shr .i64 (Go.bits .xor .i64 x11_2 x8_1) x13_3) = j_:=⟨_,rfl⟩
        replace H:(if x13_3 < (l1.length:Int) then (if 0 ≤ (rd l1 x13_3) then (numnahref01_Turn.l2 k3 a0 l1 t269 x8_1 x10_2 x11_2 (wrap64 (x12_3 + (shl .i64 (Int.tmod (ji12) 2) (rd l1 x13_3)))) (wrap64 (x13_3 + 1))) else (none)) else (none)) = some r:=by first | (rw [hji12] at H;exact H) | (simp only [hji12] at H ⊢;exact H)
        have hji12_:((Go.bits .xor .i64 x11_2 x8_1) / 2 ^ min x13_3.toNat 64) = ji12:=hji12
        have hji12z:x13_3 ≤ 64 → ((Go.bits .xor .i64 x11_2 x8_1) / 2 ^ x13_3.toNat) = ji12:=shr_small hji12
        by_cases c13:x13_3 < (l1.length:Int)
        case neg =>
         rw [if_neg c13] at H
         exact absurd H (by simp)
        rw [if_pos c13] at H
        have c13b0:decide (x13_3 < (l1.length:Int)) = true:=decide_eq_true c13
        clear c13
        by_cases c14:0 ≤ (rd l1 x13_3)
        case neg =>
         rw [if_neg c14] at H
         exact absurd H (by simp)
        rw [if_pos c14] at H
        have c14b0:=eq_true c14
        have c14b1:decide (0 ≤ (rd l1 x13_3)) = true:=decide_eq_true c14
        clear c14
        obtain ⟨ji15,hji15⟩:∃ j_:Int,(shl .i64 (Int.tmod (ji12) 2) (rd l1 x13_3)) = j_:=⟨_,rfl⟩
        replace H:(numnahref01_Turn.l2 k3 a0 l1 t269 x8_1 x10_2 x11_2 (wrap64 (x12_3 + (ji15))) (wrap64 (x13_3 + 1))) = some r:=by first | (rw [hji15] at H;exact H) | (simp only [hji15] at H ⊢;exact H)
        have hji15_:(IntKind.i64.wrap ((Int.tmod (ji12) 2) * 2 ^ min (rd l1 x13_3).toNat 64)) = ji15:=hji15
        have hji15z:(rd l1 x13_3) ≤ 64 → (IntKind.i64.wrap ((Int.tmod (ji12) 2) * 2 ^ (rd l1 x13_3).toNat)) = ji15:=shl_small hji15
        have hji15y:(wrap64 ((Int.tmod (ji12) 2) * 2 ^ min (rd l1 x13_3).toNat 64)) = ji15:=(i64_w _).symm.trans hji15_
        have hji15x:(rd l1 x13_3) ≤ 64 → (wrap64 ((Int.tmod (ji12) 2) * 2 ^ (rd l1 x13_3).toNat)) = ji15:=fun h_=>(i64_w _).symm.trans (hji15z h_)
        have H':=Aside0.mk H
        clear H
        have p271:0 ≤ (x13_3:Int):=of_decide_eq_true (by first | (with_reducible assumption) | assumption)
        have q271:x13_3 < (l1.length:Int):=of_decide_eq_true (by first | (with_reducible assumption) | assumption)
        obtain ⟨ad271,e271,hx271_0⟩:=Kd.at_int HR1.out x13_3 p271 q271
        cases e271
        replace hx271_0:=(HB.out.cell (World.block_lt_of_cell? w _ hx271_0)).trans hx271_0
        replace p271:=eq_true p271
        replace q271:=eq_true q271
        go_wp2
        repeat (go_quiet (fail);try go_wp2)
        go_roundg k3
        case measure=>have:=HK1.out;have:=HK2.out;have:=HK3.out;omega
        case rel=>exact ⟨(wrap64 (x12_3 + (ji15))),(wrap64 (x13_3 + 1)),(by first | rfl | (simp;done) | (simp only [← hji15] <;> (first | rfl | simp)) | (simp [*];done)),(by first | rfl | (simp;done) | (simp [*];done)),H',⟨by have:=HK1.out;have:=HK2.out;have:=HK3.out;omega⟩,⟨by (with_reducible repeat (first | apply Kd.R_alloc | apply Kd.R_drewN | apply Kd.R_drew));exact HO_10.out⟩,⟨by repeat (first | (with_reducible first | exact HB.out | apply below_alloc | apply pw_below_drewN | apply below_drew1) | exact HB.out)⟩⟩
       rw [if_neg c10] at H
       have c10b0:decide (x13_3 < t269) = false:=decide_eq_false c10
       clear c10
       by_cases c16:0 ≤ x12_3
       case neg =>
        rw [if_neg c16] at H
        exact absurd H (by simp)
       rw [if_pos c16] at H
       have c16b0:decide (0 ≤ x12_3) = true:=decide_eq_true c16
       clear c16
       by_cases c17:x12_3 < (a0.size:Int)
       case neg =>
        rw [if_neg c17] at H
        exact absurd H (by simp)
       rw [if_pos c17] at H
       have c17b0:decide (x12_3 < (a0.size:Int)) = true:=decide_eq_true c17
       clear c17
       by_cases c19:x10_2.length < 140737488355328
       case neg =>
        rw [if_neg c19] at H
        exact absurd H (by simp)
       rw [if_pos c19] at H
       have LMc19:=Aside0.mk c19
       clear c19
       obtain ⟨y272,hy272⟩:∃ y_:List Int,y_ = (x10_2 ++ [bt a0 x12_3]):=⟨_,rfl⟩
       replace H:(numnahref01_Turn.l1 k3 a0 l1 t269 x8_1 y272 (wrap64 (x11_2 + 1))) = some r:=by first | (rw [hy272];with_reducible exact H) | (have H2_:=(Option.bind_some _ _).symm.trans H;rw [hy272];with_reducible exact H2_) | (have H2_:=(Option.bind_some _ _).symm.trans H;with_reducible exact H2_) | with_reducible exact H | (rw [hy272];exact H) | exact H
       have Ny272:=Aside0.mk hy272
       clear hy272
       have H':=Aside0.mk H
       clear H
       have p18:0 ≤ (x12_3:Int):=of_decide_eq_true (by first | (with_reducible assumption) | assumption)
       have q18:x12_3 < (a0.size:Int):=of_decide_eq_true (by first | (with_reducible assumption) | assumption)
       have hx18:=bt_at a0 x12_3
       replace p18:=eq_true p18
       replace q18:=eq_true q18
       go_wp2_with (first | ((with_reducible refine gate_builtin (b:=.append) (xs:=#[.tmp 53,.tmp 57]) rfl ?_);at_builtin;refine Kd.R_append (Kd.int .u8) (w0:=w) w.heap.size rfl (.tmp 53) (.tmp 57) 42 5 (.int .u8 0) 1 rfl Try.underlying42 info5 rfl (by decide) (by omega) u10 x10_2 (bt a0 x12_3) [.int .u8 (bt a0 x12_3)] (fun _=>True) (fun _=>False) rfl rfl ?aP (fun _ hk=>hk.elim) ?aF ?aO ?aB ?aS ?aL ?_;(case aP=>exact rfl);(case aB=>exact (by repeat (first | (with_reducible first | exact HB.out | apply below_alloc | apply pw_below_drewN | apply below_drew1) | exact HB.out)));(case aF=>exact (fun _ _=>trivial));(case aO=>exact (by (with_reducible repeat (first | apply Kd.R_alloc | apply Kd.R_drewN | apply Kd.R_drew));exact HO_10.out));(case aS=>exact (below_size (by repeat (first | (with_reducible first | exact HB.out | apply below_alloc | apply pw_below_drewN | apply below_drew1) | exact HB.out))));(case aL=>have:=LMc19.out;omega);intro v273 w20 ho hb hg hat;rw [← Ny272.out] at ho;have n0_:=Aside0.mk (hb);have n1_:=Aside0.mk (ho);clear HB;clear HO_10;have HB:=n0_;have HO274:=n1_;clear n0_ n1_;clear ho hb hg hat))
       repeat (go_quiet (first | ((with_reducible refine gate_builtin (b:=.append) (xs:=#[.tmp 53,.tmp 57]) rfl ?_);at_builtin;refine Kd.R_append (Kd.int .u8) (w0:=w) w.heap.size rfl (.tmp 53) (.tmp 57) 42 5 (.int .u8 0) 1 rfl Try.underlying42 info5 rfl (by decide) (by omega) u10 x10_2 (bt a0 x12_3) [.int .u8 (bt a0 x12_3)] (fun _=>True) (fun _=>False) rfl rfl ?aP (fun _ hk=>hk.elim) ?aF ?aO ?aB ?aS ?aL ?_;(case aP=>exact rfl);(case aB=>exact (by repeat (first | (with_reducible first | exact HB.out | apply below_alloc | apply pw_below_drewN | apply below_drew1) | exact HB.out)));(case aF=>exact (fun _ _=>trivial));(case aO=>exact (by (with_reducible repeat (first | apply Kd.R_alloc | apply Kd.R_drewN | apply Kd.R_drew));exact HO_10.out));(case aS=>exact (below_size (by repeat (first | (with_reducible first | exact HB.out | apply below_alloc | apply pw_below_drewN | apply below_drew1) | exact HB.out))));(case aL=>have:=LMc19.out;omega);intro v273 w20 ho hb hg hat;rw [← Ny272.out] at ho;have n0_:=Aside0.mk (hb);have n1_:=Aside0.mk (ho);clear HB;clear HO_10;have HB:=n0_;have HO274:=n1_;clear n0_ n1_;clear ho hb hg hat));try go_wp2_with (first | ((with_reducible refine gate_builtin (b:=.append) (xs:=#[.tmp 53,.tmp 57]) rfl ?_);at_builtin;refine Kd.R_append (Kd.int .u8) (w0:=w) w.heap.size rfl (.tmp 53) (.tmp 57) 42 5 (.int .u8 0) 1 rfl Try.underlying42 info5 rfl (by decide) (by omega) u10 x10_2 (bt a0 x12_3) [.int .u8 (bt a0 x12_3)] (fun _=>True) (fun _=>False) rfl rfl ?aP (fun _ hk=>hk.elim) ?aF ?aO ?aB ?aS ?aL ?_;(case aP=>exact rfl);(case aB=>exact (by repeat (first | (with_reducible first | exact HB.out | apply below_alloc | apply pw_below_drewN | apply below_drew1) | exact HB.out)));(case aF=>exact (fun _ _=>trivial));(case aO=>exact (by (with_reducible repeat (first | apply Kd.R_alloc | apply Kd.R_drewN | apply Kd.R_drew));exact HO_10.out));(case aS=>exact (below_size (by repeat (first | (with_reducible first | exact HB.out | apply below_alloc | apply pw_below_drewN | apply below_drew1) | exact HB.out))));(case aL=>have:=LMc19.out;omega);intro v273 w20 ho hb hg hat;rw [← Ny272.out] at ho;have n0_:=Aside0.mk (hb);have n1_:=Aside0.mk (ho);clear HB;clear HO_10;have HB:=n0_;have HO274:=n1_;clear n0_ n1_;clear ho hb hg hat)))
       go_roundg k3
       case measure=>have:=HK1.out;have:=HK2.out;have:=HK3.out;omega
       case rel=>exact ⟨(y272),(wrap64 (x11_2 + 1)),(by first | rfl | (simp;done) | (simp [*];done)),H',⟨by have:=HK1.out;have:=HK2.out;have:=HK3.out;omega⟩,⟨by (with_reducible repeat (first | apply Kd.R_alloc | apply Kd.R_drewN | apply Kd.R_drew));exact HO274.out⟩,⟨by repeat (first | (with_reducible first | exact HB.out | apply below_alloc | apply pw_below_drewN | apply below_drew1) | exact HB.out)⟩⟩
end Go.Proofs.Ythpahlkhiknofaa.G
namespace Go.Proofs.Ythpahlkhiknofaa.G
open Go.RowKit Go.Proofs.YthpahlkhiknofaaW.PrintWords Go.Proofs.YthpahlkhiknofaaW.PrintLast Go.Proofs.YthpahlkhiknofaaW.PrintMore
attribute [local go_sem] max2_int min2_int max_two min_two max_three min_three max_four min_four   -- for this text's walks alone
set_option linter.unusedVariables false
set_option linter.unusedSimpArgs false
def numnahlaw01_list.f (l0:List Int):Option ((List Int)):=if 0 ≤ (mn (l0.length:Int) 1001) then (if (mn (l0.length:Int) 1001) ≤ (l0.length:Int) then ((some (l0.take ((mn (l0.length:Int) 1001):Int).toNat:List Int)).bind fun y101=>(if ([]:List Int).length + y101.length < 8796093022208 then (some (([]:List Int) ++ y101)) else (none))) else (none)) else (none)
set_option maxHeartbeats 8000000 in
set_option maxRecDepth 100000 in
theorem numnahlaw01_list.calls (A0:Option Addr) (c0:Nat) (l0:List Int) (r:List Int) (w:World) (hr0:Kd.C (Kd.int .i64) w A0 l0.length l0) (hc0:l0.length ≤ c0) (h:numnahlaw01_list.f l0 = some r) :
  Calls Try.prog 17 #[.slice A0 l0.length c0] w fun e w'=>∃ v0_:Value,e = .returned (v0_) ∧ Kd.R (Kd.int .i64) 3 w' w.heap.size (fun _=>True) v0_ r ∧ Below w.heap.size w w':=by
 have HR0:=Aside0.mk hr0
 have HC0:=Aside0.mk hc0
 clear hr0 hc0
 have HB:=Aside0.mk (Below.refl w.heap.size w)
 have H:(if 0 ≤ (mn (l0.length:Int) 1001) then (if (mn (l0.length:Int) 1001) ≤ (l0.length:Int) then ((some (l0.take ((mn (l0.length:Int) 1001):Int).toNat:List Int)).bind fun y101=>(if ([]:List Int).length + y101.length < 8796093022208 then (some (([]:List Int) ++ y101)) else (none))) else (none)) else (none)) = some r:=h
 clear h
 obtain ⟨ji2,hji2⟩:∃ j_:Int,(mn (l0.length:Int) 1001) = j_:=⟨_,rfl⟩
 replace H:(if 0 ≤ (ji2) then (if (ji2) ≤ (l0.length:Int) then ((some (l0.take ((ji2):Int).toNat:List Int)).bind fun y101=>(if ([]:List Int).length + y101.length < 8796093022208 then (some (([]:List Int) ++ y101)) else (none))) else (none)) else (none)) = some r:=by first | (rw [hji2] at H;exact H) | (simp only [hji2] at H ⊢;exact H)
 (try (have hji2h:ji2 ≤ 1001:=by (rw [← hji2];unfold mn;(repeat' split) <;> omega)))
 (try (have hji2g:ji2 ≤ 64:=by omega))
 (try (have hji2l:0 ≤ ji2:=by (rw [← hji2];unfold mn;(repeat' split) <;> omega)))
 (try (have hji2m:0 ≤ ji2:=by omega))
 have hji2_:(if 1001 < (l0.length:Int) then 1001 else (l0.length:Int)) = ji2:=hji2
 by_cases c3:0 ≤ (ji2)
 case neg =>
  rw [if_neg c3] at H
  exact absurd H (by simp)
 rw [if_pos c3] at H
 have c3b0:=eq_true c3
 have c3b1:decide (0 ≤ (ji2)) = true:=decide_eq_true c3
 clear c3
 by_cases c4:(ji2) ≤ (l0.length:Int)
 case neg =>
  rw [if_neg c4] at H
  exact absurd H (by simp)
 rw [if_pos c4] at H
 have c4b0:=eq_true c4
 have c4b1:decide ((ji2) ≤ (l0.length:Int)) = true:=decide_eq_true c4
 clear c4
 obtain ⟨y101,hy101⟩:∃ y_:List Int,y_ = (l0.take ((ji2):Int).toNat):=⟨_,rfl⟩
 replace H:(if ([]:List Int).length + y101.length < 8796093022208 then (some (([]:List Int) ++ y101)) else (none)) = some r:=by first | (rw [hy101];with_reducible exact H) | (have H2_:=(Option.bind_some _ _).symm.trans H;rw [hy101];with_reducible exact H2_) | (have H2_:=(Option.bind_some _ _).symm.trans H;with_reducible exact H2_) | with_reducible exact H | (rw [hy101];exact H) | exact H
 have Ny101:=Aside0.mk hy101
 clear hy101
 by_cases c5:([]:List Int).length + y101.length < 8796093022208
 case neg =>
  rw [if_neg c5] at H
  exact absurd H (by simp)
 rw [if_pos c5] at H
 have LMc5:=Aside0.mk c5
 clear c5
 obtain ⟨y105,hy105⟩:∃ y_:List Int,y_ = (([]:List Int) ++ y101):=⟨_,rfl⟩
 replace H:(some y105) = some r:=by first | (rw [hy105];with_reducible exact H) | (have H2_:=(Option.bind_some _ _).symm.trans H;rw [hy105];with_reducible exact H2_) | (have H2_:=(Option.bind_some _ _).symm.trans H;with_reducible exact H2_) | with_reducible exact H | (rw [hy105];exact H) | exact H
 have Ny105:=Aside0.mk hy105
 clear hy105
 obtain rfl:=Option.some.inj H
 have q6:((ji2):Int) ≤ ((l0.length:Int):Int):=of_decide_eq_true (by first | (with_reducible assumption) | assumption)
 obtain ⟨i06,hi06,_,hsz6,_⟩:=info_parts info3
 have hroom6:l0.length ≤ c0:=HC0.out
 have hC6:Kd.C (Kd.int .i64) _ A0 l0.length l0:=HR0.out
 have hcut6:=cut_to (P:=Try.prog) 22 3 .i64 Try.underlying22 hi06 A0 l0.length c0 (ji2) (of_decide_eq_true (by first | (with_reducible assumption) | assumption)) q6 hroom6
 have hr6:=Kd.C_take (m:=((ji2):Int).toNat) hC6 (by omega)
 have hy6:y101.length = ((ji2):Int).toNat:=(by rw [Ny101.out,List.length_take];omega)
 rw [← Ny101.out] at hr6
 rw [← hy6] at hcut6
 have HR104:=Aside0.mk hr6
 have HC104:=Aside0.mk (show y101.length ≤ c0 from by omega)
 clear hr6 hC6 hroom6 hi06 hsz6
 have KY6:=Aside0.mk hy6
 clear hy6
 replace q6:=eq_true q6
 go_enter Try.func17,Try.ntmps17
 go_wp2_with (first | ((with_reducible refine gate_builtin (b:=.append) (xs:=#[.tmp 4,.tmp 9]) rfl ?_);at_builtin;refine Kd.R_append_rows (Kd.int .i64) (w0:=w) w.heap.size rfl (.tmp 4) (.tmp 9) 22 3 (.int .i64 0) 8 rfl Try.underlying22 info3 rfl (by decide) (by omega) (.slice none 0 0) ([]:List Int) y101 _ _ _ (fun _=>True) (fun _=>False) rfl rfl ?aO ?aR (fun _ _ h=>h) (fun _ h=>h.elim) ?aF ?aB ?aS ?aL ?_;(case aR=>repeat (first | exact HR104.out | (with_reducible refine Kd.C_alloc ?_ _) | (with_reducible refine Kd.C_drewN ?_ _) | (with_reducible refine Kd.C_drew ?_)));(case aB=>exact (by repeat (first | (with_reducible first | exact HB.out | apply below_alloc | apply pw_below_drewN | apply below_drew1) | exact HB.out)));(case aF=>exact (fun _ _=>trivial));(case aO=>exact ((Kd.R_nil _ _ _ _ (fun _=>True))));(case aS=>exact (below_size (by repeat (first | (with_reducible first | exact HB.out | apply below_alloc | apply pw_below_drewN | apply below_drew1) | exact HB.out))));(case aL=>have:=LMc5.out;omega);intro v106 w7 ho hb hg hat;rw [← Ny105.out] at ho;have n0_:=Aside0.mk (hb);have n1_:=Aside0.mk (ho);clear HB;have HB:=n0_;have HO107:=n1_;clear n0_ n1_;clear ho hb hg hat))
 go_ret
 exact ⟨_,by first | rfl | (simp [errW_none,errW_some] <;> rfl) | (simp only [← hji2];first | rfl | (simp [errW_none,errW_some] <;> rfl)) | (simp [*,errW_none,errW_some] <;> rfl),by (with_reducible repeat (first | apply Kd.R_alloc | apply Kd.R_drewN | apply Kd.R_drew));exact HO107.out,by repeat (first | (with_reducible first | exact HB.out | apply below_alloc | apply pw_below_drewN | apply below_drew1) | exact HB.out)⟩
end Go.Proofs.Ythpahlkhiknofaa.G
namespace Go.Proofs.Ythpahlkhiknofaa.G
open Go.RowKit Go.Proofs.YthpahlkhiknofaaW.PrintWords Go.Proofs.YthpahlkhiknofaaW.PrintLast Go.Proofs.YthpahlkhiknofaaW.PrintMore
set_option maxHeartbeats 8000000
set_option maxRecDepth 100000
attribute [local go_sem] max2_int min2_int max_two min_two max_three min_three max_four min_four   -- for this text's walks alone
def numnahlaw01_CardTurns.j0:Nat → ByteArray → List Int → List Int → ByteArray → Int → Bool → Option (Bool)
 | 0,_,_,_,_,_,_=>none
 | k + 1,x7,x8,x9,x10,x11,x47=>if x47 = true then (if x10.toList = ([]:List UInt8) then (if x11 = 2 then ((numnahlaw01_awake.f).bind fun t287=>(some t287)) else (some false)) else (some false)) else ((numnahref01_Turn.f k x7 x8 x9).bind fun t288=>(if x10.toList = t288.toList then (if x11 = 0 then ((numnahlaw01_awake.f).bind fun t289=>(some t289)) else (some false)) else (some false)))
def numnahlaw01_CardTurns.f (k:Nat) (a0:ByteArray) (l1:List Int) (l2:List Int):Option (Bool):=(numnahlaw01_short.f a0).bind fun t275=>((numnahlaw01_list.f l1).bind fun t276=>((numnahlaw01_list.f l2).bind fun t279=>((card_Turn.f k t275 t276 t279).bind fun bt282=>((numnahref01_Vars.f k t275).bind fun t284=>(if t284 = 0 then (numnahlaw01_CardTurns.j0 k t275 t276 t279 bt282.1 bt282.2 true) else (if (t276.length:Int) = t284 then ((numnahref01_Distinct.f k t276 t284).bind fun t285=>(if t285 = true then ((numnahref01_Distinct.f k t279 t284).bind fun t286=>(numnahlaw01_CardTurns.j0 k t275 t276 t279 bt282.1 bt282.2 (!t286))) else (numnahlaw01_CardTurns.j0 k t275 t276 t279 bt282.1 bt282.2 true))) else (numnahlaw01_CardTurns.j0 k t275 t276 t279 bt282.1 bt282.2 true)))))))
theorem numnahlaw01_CardTurns.mono_l:∀ k,(∀ y0 y1 y2 y3 y4 y5,LeO (numnahlaw01_CardTurns.j0 k y0 y1 y2 y3 y4 y5) (numnahlaw01_CardTurns.j0 (k + 1) y0 y1 y2 y3 y4 y5))
 | 0=>fun _ _ _ _ _ _ r h=>by simp [numnahlaw01_CardTurns.j0] at h
 | k + 1=>by
  have ih0:=numnahlaw01_CardTurns.mono_l k
  intro y0 y1 y2 y3 y4 y5
  unfold numnahlaw01_CardTurns.j0
  repeat' first
  | (with_reducible exact ih0 _ _ _ _ _ _)
  | (with_reducible exact card_Turn.mono _ _ _ _)
  | (with_reducible exact numnahref01_Distinct.mono _ _ _)
  | (with_reducible exact numnahref01_Turn.mono _ _ _ _)
  | (with_reducible exact numnahref01_Vars.mono _ _)
  | (with_reducible exact LeO.refl _)
  | (with_reducible exact LeO.none _)
  | (with_reducible refine LeO.ite ?_ ?_)
  | (with_reducible refine LeO.bind ?_ (fun _=>?_))
  | exact ih0 _ _ _ _ _ _
  | exact card_Turn.mono _ _ _ _
  | exact numnahref01_Distinct.mono _ _ _
  | exact numnahref01_Turn.mono _ _ _ _
  | exact numnahref01_Vars.mono _ _
  | exact LeO.none _
  | refine LeO.ite ?_ ?_
  | refine LeO.bind ?_ (fun _=>?_)
theorem numnahlaw01_CardTurns.mono:∀ a0 a1 a2 k,LeO (numnahlaw01_CardTurns.f k a0 a1 a2) (numnahlaw01_CardTurns.f (k + 1) a0 a1 a2):=by
 intro a0 a1 a2 k
 have ih0:=numnahlaw01_CardTurns.mono_l k
 unfold numnahlaw01_CardTurns.f
 repeat' first
   | (with_reducible exact ih0 _ _ _ _ _ _)
   | (with_reducible exact card_Turn.mono _ _ _ _)
   | (with_reducible exact numnahref01_Distinct.mono _ _ _)
   | (with_reducible exact numnahref01_Turn.mono _ _ _ _)
   | (with_reducible exact numnahref01_Vars.mono _ _)
   | (with_reducible exact LeO.refl _)
   | (with_reducible exact LeO.none _)
   | (with_reducible refine LeO.ite ?_ ?_)
   | (with_reducible refine LeO.bind ?_ (fun _=>?_))
   | exact ih0 _ _ _ _ _ _
   | exact card_Turn.mono _ _ _ _
   | exact numnahref01_Distinct.mono _ _ _
   | exact numnahref01_Turn.mono _ _ _ _
   | exact numnahref01_Vars.mono _ _
   | exact LeO.none _
   | refine LeO.ite ?_ ?_
   | refine LeO.bind ?_ (fun _=>?_)
theorem numnahlaw01_CardTurns.calls (k:Nat) (a0:ByteArray) (A1:Option Addr) (c1:Nat) (l1:List Int) (A2:Option Addr) (c2:Nat) (l2:List Int) (r:Bool) (w:World) (hr1:Kd.C (Kd.int .i64) w A1 l1.length l1) (hc1:l1.length ≤ c1) (hr2:Kd.C (Kd.int .i64) w A2 l2.length l2) (hc2:l2.length ≤ c2) (h:numnahlaw01_CardTurns.f k a0 l1 l2 = some r) :
  Calls Try.prog 6 #[.string a0,.slice A1 l1.length c1,.slice A2 l2.length c2] w fun e w'=>e = .returned (.bool r) ∧ Below w.heap.size w w':=by
 have HR1:=Aside0.mk hr1
 have HC1:=Aside0.mk hc1
 clear hr1 hc1
 have HR2:=Aside0.mk hr2
 have HC2:=Aside0.mk hc2
 clear hr2 hc2
 have HB:=Aside0.mk (Below.refl w.heap.size w)
 have H:((numnahlaw01_short.f a0).bind fun t275=>((numnahlaw01_list.f l1).bind fun t276=>((numnahlaw01_list.f l2).bind fun t279=>((card_Turn.f k t275 t276 t279).bind fun bt282=>((numnahref01_Vars.f k t275).bind fun t284=>(if t284 = 0 then (numnahlaw01_CardTurns.j0 k t275 t276 t279 bt282.1 bt282.2 true) else (if (t276.length:Int) = t284 then ((numnahref01_Distinct.f k t276 t284).bind fun t285=>(if t285 = true then ((numnahref01_Distinct.f k t279 t284).bind fun t286=>(numnahlaw01_CardTurns.j0 k t275 t276 t279 bt282.1 bt282.2 (!t286))) else (numnahlaw01_CardTurns.j0 k t275 t276 t279 bt282.1 bt282.2 true))) else (numnahlaw01_CardTurns.j0 k t275 t276 t279 bt282.1 bt282.2 true)))))))) = some r:=h
 clear h
 replace H:=Option.bind_eq_some_iff.mp H
 obtain ⟨t275,A40,H⟩:=H
 replace H:((numnahlaw01_list.f l1).bind fun t276=>((numnahlaw01_list.f l2).bind fun t279=>((card_Turn.f k t275 t276 t279).bind fun bt282=>((numnahref01_Vars.f k t275).bind fun t284=>(if t284 = 0 then (numnahlaw01_CardTurns.j0 k t275 t276 t279 bt282.1 bt282.2 true) else (if (t276.length:Int) = t284 then ((numnahref01_Distinct.f k t276 t284).bind fun t285=>(if t285 = true then ((numnahref01_Distinct.f k t279 t284).bind fun t286=>(numnahlaw01_CardTurns.j0 k t275 t276 t279 bt282.1 bt282.2 (!t286))) else (numnahlaw01_CardTurns.j0 k t275 t276 t279 bt282.1 bt282.2 true))) else (numnahlaw01_CardTurns.j0 k t275 t276 t279 bt282.1 bt282.2 true))))))) = some r:=H
 have A4:=Aside0.mk A40
 clear A40
 replace H:=Option.bind_eq_some_iff.mp H
 obtain ⟨t276,A50,H⟩:=H
 replace H:((numnahlaw01_list.f l2).bind fun t279=>((card_Turn.f k t275 t276 t279).bind fun bt282=>((numnahref01_Vars.f k t275).bind fun t284=>(if t284 = 0 then (numnahlaw01_CardTurns.j0 k t275 t276 t279 bt282.1 bt282.2 true) else (if (t276.length:Int) = t284 then ((numnahref01_Distinct.f k t276 t284).bind fun t285=>(if t285 = true then ((numnahref01_Distinct.f k t279 t284).bind fun t286=>(numnahlaw01_CardTurns.j0 k t275 t276 t279 bt282.1 bt282.2 (!t286))) else (numnahlaw01_CardTurns.j0 k t275 t276 t279 bt282.1 bt282.2 true))) else (numnahlaw01_CardTurns.j0 k t275 t276 t279 bt282.1 bt282.2 true)))))) = some r:=H
 have A5:=Aside0.mk A50
 clear A50
 replace H:=Option.bind_eq_some_iff.mp H
 obtain ⟨t279,A60,H⟩:=H
 replace H:((card_Turn.f k t275 t276 t279).bind fun bt282=>((numnahref01_Vars.f k t275).bind fun t284=>(if t284 = 0 then (numnahlaw01_CardTurns.j0 k t275 t276 t279 bt282.1 bt282.2 true) else (if (t276.length:Int) = t284 then ((numnahref01_Distinct.f k t276 t284).bind fun t285=>(if t285 = true then ((numnahref01_Distinct.f k t279 t284).bind fun t286=>(numnahlaw01_CardTurns.j0 k t275 t276 t279 bt282.1 bt282.2 (!t286))) else (numnahlaw01_CardTurns.j0 k t275 t276 t279 bt282.1 bt282.2 true))) else (numnahlaw01_CardTurns.j0 k t275 t276 t279 bt282.1 bt282.2 true))))) = some r:=H
 have A6:=Aside0.mk A60
 clear A60
 replace H:=Option.bind_eq_some_iff.mp H
 obtain ⟨⟨t282,t283⟩,A70,H⟩:=H
 replace H:((numnahref01_Vars.f k t275).bind fun t284=>(if t284 = 0 then (numnahlaw01_CardTurns.j0 k t275 t276 t279 t282 t283 true) else (if (t276.length:Int) = t284 then ((numnahref01_Distinct.f k t276 t284).bind fun t285=>(if t285 = true then ((numnahref01_Distinct.f k t279 t284).bind fun t286=>(numnahlaw01_CardTurns.j0 k t275 t276 t279 t282 t283 (!t286))) else (numnahlaw01_CardTurns.j0 k t275 t276 t279 t282 t283 true))) else (numnahlaw01_CardTurns.j0 k t275 t276 t279 t282 t283 true)))) = some r:=H
 have A7:=Aside0.mk A70
 clear A70
 replace H:=Option.bind_eq_some_iff.mp H
 obtain ⟨t284,A80,H⟩:=H
 replace H:(if t284 = 0 then (numnahlaw01_CardTurns.j0 k t275 t276 t279 t282 t283 true) else (if (t276.length:Int) = t284 then ((numnahref01_Distinct.f k t276 t284).bind fun t285=>(if t285 = true then ((numnahref01_Distinct.f k t279 t284).bind fun t286=>(numnahlaw01_CardTurns.j0 k t275 t276 t279 t282 t283 (!t286))) else (numnahlaw01_CardTurns.j0 k t275 t276 t279 t282 t283 true))) else (numnahlaw01_CardTurns.j0 k t275 t276 t279 t282 t283 true))) = some r:=H
 have A8:=Aside0.mk A80
 clear A80
 have HC9:=Aside0.mk H
 clear H
 go_enter Try.func6,Try.ntmps6
 go_upto_region 4 with (first | ((with_reducible refine gate_callee (f:=16) rfl ?_);refine goesL_ (some 14) rfl rfl Try.func16 (by kernel_rfl) rfl #[.string a0] rfl (by (try simp only [List.map_toArray,List.map_cons,List.map_nil]);first | done | rfl | (simp only [List.length_drop,List.length_take];rfl)) ?_;(with_reducible refine (numnahlaw01_short.calls a0 t275 _ A4.out).mono ?_);rintro e w10 ⟨rfl,hb⟩;refine ⟨_,rfl,?_⟩;have n0_:=Aside0.mk (below_step (by repeat (first | (with_reducible first | exact HB.out | apply below_alloc | apply pw_below_drewN | apply below_drew1) | exact HB.out)) hb);clear HB;have HB:=n0_;clear n0_;(try clear hb)) | ((with_reducible refine gate_callee (f:=17) rfl ?_);refine goesL_ (some 16) rfl rfl Try.func17 (by kernel_rfl) rfl #[.slice A1 l1.length c1] rfl (by (try simp only [List.map_toArray,List.map_cons,List.map_nil]);first | done | rfl | (simp only [List.length_drop,List.length_take];rfl)) ?_;(with_reducible refine (numnahlaw01_list.calls _ _ l1 t276 _ ?side1 ?side2 A5.out).mono ?_);(case side1=>repeat (first | exact (Kd.C_below HR1.out HB.out) | (with_reducible refine Kd.C_alloc ?_ _) | (with_reducible refine Kd.C_drewN ?_ _) | (with_reducible refine Kd.C_drew ?_)));(case side2=>exact HC1.out);rintro e w11 ⟨v277,rfl,ho0,hb⟩;refine ⟨_,rfl,?_⟩;have n0_:=Aside0.mk (Kd.R_lower ho0 (below_size (by repeat (first | (with_reducible first | exact HB.out | apply below_alloc | apply pw_below_drewN | apply below_drew1) | exact HB.out))));have n1_:=Aside0.mk (below_step (by repeat (first | (with_reducible first | exact HB.out | apply below_alloc | apply pw_below_drewN | apply below_drew1) | exact HB.out)) hb);clear HB;have HO278:=n0_;have HB:=n1_;clear n0_ n1_;(try clear hb);(try clear ho0)) | ((with_reducible refine gate_callee (f:=17) rfl ?_);refine goesL_ (some 18) rfl rfl Try.func17 (by kernel_rfl) rfl #[.slice A2 l2.length c2] rfl (by (try simp only [List.map_toArray,List.map_cons,List.map_nil]);first | done | rfl | (simp only [List.length_drop,List.length_take];rfl)) ?_;(with_reducible refine (numnahlaw01_list.calls _ _ l2 t279 _ ?side1 ?side2 A6.out).mono ?_);(case side1=>repeat (first | exact (Kd.C_below HR2.out HB.out) | (with_reducible refine Kd.C_alloc ?_ _) | (with_reducible refine Kd.C_drewN ?_ _) | (with_reducible refine Kd.C_drew ?_)));(case side2=>exact HC2.out);rintro e w12 ⟨v280,rfl,ho0,hb⟩;refine ⟨_,rfl,?_⟩;have n0_:=Aside0.mk (Kd.R_elder' (by (with_reducible repeat (first | apply Kd.R_alloc | apply Kd.R_drewN | apply Kd.R_drew));exact HO278.out) (Kd.R_base ho0) hb);have n1_:=Aside0.mk (Kd.R_lower (Kd.R_new' ho0 (Kd.R_lt (by (with_reducible repeat (first | apply Kd.R_alloc | apply Kd.R_drewN | apply Kd.R_drew));exact HO278.out))) (below_size (by repeat (first | (with_reducible first | exact HB.out | apply below_alloc | apply pw_below_drewN | apply below_drew1) | exact HB.out))));have n2_:=Aside0.mk (below_step (by repeat (first | (with_reducible first | exact HB.out | apply below_alloc | apply pw_below_drewN | apply below_drew1) | exact HB.out)) hb);clear HO278;clear HB;have HO278:=n0_;have HO281:=n1_;have HB:=n2_;clear n0_ n1_ n2_;(try clear hb);(try clear ho0);obtain ⟨Ao13,co13,eo13⟩:=Kd.R_slice HO278.out;subst eo13;obtain ⟨Ao14,co14,eo14⟩:=Kd.R_slice HO281.out;subst eo14) | ((with_reducible refine gate_callee (f:=37) rfl ?_);refine goesL_ (some 23) rfl rfl Try.func37 (by kernel_rfl) rfl #[.string t275,.slice Ao13 t276.length co13,.slice Ao14 t279.length co14] rfl (by (try simp only [List.map_toArray,List.map_cons,List.map_nil]);first | done | rfl | (simp only [List.length_drop,List.length_take];rfl)) ?_;(with_reducible refine (card_Turn.calls k t275 _ _ t276 _ _ t279 t282 t283 _ ?side1 ?side2 ?side3 ?side4 A7.out).mono ?_);(case side1=>repeat (first | exact (Kd.R_reads' HO278.out).2.2 | (with_reducible refine Kd.C_alloc ?_ _) | (with_reducible refine Kd.C_drewN ?_ _) | (with_reducible refine Kd.C_drew ?_)));(case side2=>exact (Kd.R_reads' HO278.out).2.1);(case side3=>repeat (first | exact (Kd.R_reads' HO281.out).2.2 | (with_reducible refine Kd.C_alloc ?_ _) | (with_reducible refine Kd.C_drewN ?_ _) | (with_reducible refine Kd.C_drew ?_)));(case side4=>exact (Kd.R_reads' HO281.out).2.1);rintro e w15 ⟨rfl,hb⟩;refine ⟨_,rfl,?_⟩;have n0_:=Aside0.mk (Kd.R_below (by (with_reducible repeat (first | apply Kd.R_alloc | apply Kd.R_drewN | apply Kd.R_drew));exact HO278.out) hb);have n1_:=Aside0.mk (Kd.R_below (by (with_reducible repeat (first | apply Kd.R_alloc | apply Kd.R_drewN | apply Kd.R_drew));exact HO281.out) hb);have n2_:=Aside0.mk (below_step (by repeat (first | (with_reducible first | exact HB.out | apply below_alloc | apply pw_below_drewN | apply below_drew1) | exact HB.out)) hb);clear HO278;clear HO281;clear HB;have HO278:=n0_;have HO281:=n1_;have HB:=n2_;clear n0_ n1_ n2_;(try clear hb)) | ((with_reducible refine gate_callee (f:=24) rfl ?_);refine goesL_ (some 27) rfl rfl Try.func24 (by kernel_rfl) rfl #[.string t275] rfl (by (try simp only [List.map_toArray,List.map_cons,List.map_nil]);first | done | rfl | (simp only [List.length_drop,List.length_take];rfl)) ?_;(with_reducible refine (numnahref01_Vars.calls k t275 t284 _ A8.out).mono ?_);rintro e w' ⟨rfl,⟨nd,rfl⟩⟩;refine ⟨_,rfl,?_⟩))
 (try simp only [Act.put,List.setIfInBounds_toArray,List.set_cons_zero,List.set_cons_succ])
 go_cut [47] (fun v47 wc=>∃ (kq:Nat) (x47_8:Bool),v47 = .bool x47_8 ∧ Aside0 (numnahlaw01_CardTurns.j0 kq t275 t276 t279 t282 t283 x47_8 = some r) ∧ Aside0 (kq ≤ k) ∧ Aside0 (Kd.R (Kd.int .i64) 3 wc w.heap.size (fun k_=>some k_ ≠ ((.slice Ao14 t279.length co14):Value).ownBlock) (.slice Ao13 t276.length co13) t276) ∧ Aside0 (Kd.R (Kd.int .i64) 3 wc w.heap.size (fun k_=>some k_ ≠ ((.slice Ao13 t276.length co13):Value).ownBlock) (.slice Ao14 t279.length co14) t279) ∧ Aside0 (Below w.heap.size w wc))
 case first =>
  have H:=HC9.out
  clear HC9
  by_cases c16:t284 = 0
  ·rw [if_pos c16] at H
   have c16b0:(t284 == 0) = true:=beq_iff_eq.mpr c16
   have c16b1:(t284 != 0) = false:=bne_eq_false_iff_eq.mpr c16
   clear c16
   (first | rw [c16b0] | (simp only [i64_w,i32_w];rw [c16b0]) | skip)
   have H':=Aside0.mk H
   clear H
   go_wp2
   go_meet
   case rel=>exact ⟨_,(true),(by first | rfl | (simp;done) | (simp [*];done)),H',⟨by first | omega | exact Nat.le_refl _⟩,⟨by (with_reducible repeat (first | apply Kd.R_alloc | apply Kd.R_drewN | apply Kd.R_drew));exact Kd.R_mono HO278.out (fun _ hk=>hk.2)⟩,⟨by (with_reducible repeat (first | apply Kd.R_alloc | apply Kd.R_drewN | apply Kd.R_drew));exact Kd.R_mono HO281.out (fun _ hk=>hk.2)⟩,⟨by repeat (first | (with_reducible first | exact HB.out | apply below_alloc | apply pw_below_drewN | apply below_drew1) | exact HB.out)⟩⟩
  rw [if_neg c16] at H
  have c16b0:(t284 == 0) = false:=beq_eq_false_iff_ne.mpr c16
  have c16b1:(t284 != 0) = true:=bne_iff_ne.mpr c16
  (first | rw [c16b0] | (simp only [i64_w,i32_w];rw [c16b0]) | skip)
  by_cases c17:(t276.length:Int) = t284
  case neg =>
   rw [if_neg c17] at H
   have c17b0:((t276.length:Int) == t284) = false:=beq_eq_false_iff_ne.mpr c17
   have c17b1:((t276.length:Int) != t284) = true:=bne_iff_ne.mpr c17
   have H':=Aside0.mk H
   clear H
   go_wp2
   go_meet
   case rel=>exact ⟨_,(true),(by first | rfl | (simp;done) | (simp [*];done)),H',⟨by first | omega | exact Nat.le_refl _⟩,⟨by (with_reducible repeat (first | apply Kd.R_alloc | apply Kd.R_drewN | apply Kd.R_drew));exact Kd.R_mono HO278.out (fun _ hk=>hk.2)⟩,⟨by (with_reducible repeat (first | apply Kd.R_alloc | apply Kd.R_drewN | apply Kd.R_drew));exact Kd.R_mono HO281.out (fun _ hk=>hk.2)⟩,⟨by repeat (first | (with_reducible first | exact HB.out | apply below_alloc | apply pw_below_drewN | apply below_drew1) | exact HB.out)⟩⟩
  rw [if_pos c17] at H
  have c17b0:((t276.length:Int) == t284) = true:=beq_iff_eq.mpr c17
  have c17b1:((t276.length:Int) != t284) = false:=bne_eq_false_iff_eq.mpr c17
  clear c17
  replace H:=Option.bind_eq_some_iff.mp H
  obtain ⟨t285,A180,H⟩:=H
  replace H:(if t285 = true then ((numnahref01_Distinct.f k t279 t284).bind fun t286=>(numnahlaw01_CardTurns.j0 k t275 t276 t279 t282 t283 (!t286))) else (numnahlaw01_CardTurns.j0 k t275 t276 t279 t282 t283 true)) = some r:=H
  have A18:=Aside0.mk A180
  clear A180
  by_cases c19:t285 = true
  case neg =>
   replace c19:=Bool.eq_false_iff.mpr c19
   subst c19
   have H1:(numnahlaw01_CardTurns.j0 k t275 t276 t279 t282 t283 true) = some r:=by rw [if_neg (show ¬ (false = true) by decide)] at H;exact H
   clear H
   have H:=H1
   clear H1
   have H':=Aside0.mk H
   clear H
   go_wp2_with (first | (go_at_call 38;(with_reducible refine (numnahref01_Distinct.calls k _ _ t276 t284 false _ ?side1 ?side2 A18.out).mono ?_);(case side1=>repeat (first | exact (Kd.R_reads' HO278.out).2.2 | (with_reducible refine Kd.C_alloc ?_ _) | (with_reducible refine Kd.C_drewN ?_ _) | (with_reducible refine Kd.C_drew ?_)));(case side2=>exact (Kd.R_reads' HO278.out).2.1);rintro e w' ⟨rfl,⟨nd,rfl⟩⟩))
   go_meet
   case rel=>exact ⟨_,(true),(by first | rfl | (simp;done) | (simp [*];done)),H',⟨by first | omega | exact Nat.le_refl _⟩,⟨by (with_reducible repeat (first | apply Kd.R_alloc | apply Kd.R_drewN | apply Kd.R_drew));exact Kd.R_mono HO278.out (fun _ hk=>hk.2)⟩,⟨by (with_reducible repeat (first | apply Kd.R_alloc | apply Kd.R_drewN | apply Kd.R_drew));exact Kd.R_mono HO281.out (fun _ hk=>hk.2)⟩,⟨by repeat (first | (with_reducible first | exact HB.out | apply below_alloc | apply pw_below_drewN | apply below_drew1) | exact HB.out)⟩⟩
  subst c19
  have H1:((numnahref01_Distinct.f k t279 t284).bind fun t286=>(numnahlaw01_CardTurns.j0 k t275 t276 t279 t282 t283 (!t286))) = some r:=by rw [if_pos rfl] at H;exact H
  clear H
  have H:=H1
  clear H1
  replace H:=Option.bind_eq_some_iff.mp H
  obtain ⟨t286,A200,H⟩:=H
  replace H:(numnahlaw01_CardTurns.j0 k t275 t276 t279 t282 t283 (!t286)) = some r:=H
  have A20:=Aside0.mk A200
  clear A200
  have H':=Aside0.mk H
  clear H
  go_wp2_with (first | (go_at_call 38;(with_reducible refine (numnahref01_Distinct.calls k _ _ t276 t284 true _ ?side1 ?side2 A18.out).mono ?_);(case side1=>repeat (first | exact (Kd.R_reads' HO278.out).2.2 | (with_reducible refine Kd.C_alloc ?_ _) | (with_reducible refine Kd.C_drewN ?_ _) | (with_reducible refine Kd.C_drew ?_)));(case side2=>exact (Kd.R_reads' HO278.out).2.1);rintro e w' ⟨rfl,⟨nd,rfl⟩⟩) | (go_at_call 38;(with_reducible refine (numnahref01_Distinct.calls k _ _ t279 t284 t286 _ ?side1 ?side2 A20.out).mono ?_);(case side1=>repeat (first | exact (Kd.R_reads' HO281.out).2.2 | (with_reducible refine Kd.C_alloc ?_ _) | (with_reducible refine Kd.C_drewN ?_ _) | (with_reducible refine Kd.C_drew ?_)));(case side2=>exact (Kd.R_reads' HO281.out).2.1);rintro e w' ⟨rfl,⟨nd,rfl⟩⟩))
  go_meet
  case rel=>exact ⟨_,(!t286),(by first | rfl | (simp;done) | (simp [*];done)),H',⟨by first | omega | exact Nat.le_refl _⟩,⟨by (with_reducible repeat (first | apply Kd.R_alloc | apply Kd.R_drewN | apply Kd.R_drew));exact Kd.R_mono HO278.out (fun _ hk=>hk.2)⟩,⟨by (with_reducible repeat (first | apply Kd.R_alloc | apply Kd.R_drewN | apply Kd.R_drew));exact Kd.R_mono HO281.out (fun _ hk=>hk.2)⟩,⟨by repeat (first | (with_reducible first | exact HB.out | apply below_alloc | apply pw_below_drewN | apply below_drew1) | exact HB.out)⟩⟩
 case rest =>
  clear HC9
  try clear c1
  try clear c2
  try clear p2
  try clear c3
  try clear c6
  try clear c16
  try clear c16b0
  try clear c16b1
  try clear c17
  try clear c17b0
  try clear c17b1
  try clear c19
  obtain ⟨kq,x47_8,rfl,HA,HJ8,HO_8,HO_9,HB⟩:=hcut
  cases kq with
  | zero=>exact absurd HA.out (by simp [numnahlaw01_CardTurns.j0])
  | succ kj8 =>
   have H:=HA.out
   clear HA
   simp only [numnahlaw01_CardTurns.j0] at H
   by_cases c21:x47_8 = true
   ·subst c21
    have H1:(if t282.toList = ([]:List UInt8) then (if t283 = 2 then ((numnahlaw01_awake.f).bind fun t287=>(some t287)) else (some false)) else (some false)) = some r:=by rw [if_pos rfl] at H;exact H
    clear H
    have H:=H1
    clear H1
    by_cases c22:t282.toList = ([]:List UInt8)
    case neg =>
     rw [if_neg c22] at H
     have c22b0:(t282.toList == ([]:List UInt8)) = false:=beq_eq_false_iff_ne.mpr c22
     have c22b1:(t282.toList != ([]:List UInt8)) = true:=bne_iff_ne.mpr c22
     obtain rfl:=Option.some.inj H
     go_wp2
     go_ret
     exact ⟨by first | rfl | (simp [errW_none,errW_some] <;> rfl) | (simp [*,errW_none,errW_some] <;> rfl),by repeat (first | (with_reducible first | exact HB.out | apply below_alloc | apply pw_below_drewN | apply below_drew1) | exact HB.out)⟩
    rw [if_pos c22] at H
    have c22b0:(t282.toList == ([]:List UInt8)) = true:=beq_iff_eq.mpr c22
    have c22b1:(t282.toList != ([]:List UInt8)) = false:=bne_eq_false_iff_eq.mpr c22
    clear c22
    by_cases c23:t283 = 2
    case neg =>
     rw [if_neg c23] at H
     have c23b0:(t283 == 2) = false:=beq_eq_false_iff_ne.mpr c23
     have c23b1:(t283 != 2) = true:=bne_iff_ne.mpr c23
     obtain rfl:=Option.some.inj H
     go_wp2
     go_ret
     exact ⟨by first | rfl | (simp [errW_none,errW_some] <;> rfl) | (simp [*,errW_none,errW_some] <;> rfl),by repeat (first | (with_reducible first | exact HB.out | apply below_alloc | apply pw_below_drewN | apply below_drew1) | exact HB.out)⟩
    rw [if_pos c23] at H
    have c23b0:(t283 == 2) = true:=beq_iff_eq.mpr c23
    have c23b1:(t283 != 2) = false:=bne_eq_false_iff_eq.mpr c23
    clear c23
    replace H:=Option.bind_eq_some_iff.mp H
    obtain ⟨t287,A240,H⟩:=H
    replace H:(some t287) = some r:=H
    have A24:=Aside0.mk A240
    clear A240
    obtain rfl:=Option.some.inj H
    go_wp2_with (first | (go_at_call 22;(with_reducible refine (numnahlaw01_awake.calls  t287 _ A24.out).mono ?_);rintro e w25 ⟨rfl,hb⟩;have n0_:=Aside0.mk (Kd.R_below (by (with_reducible repeat (first | apply Kd.R_alloc | apply Kd.R_drewN | apply Kd.R_drew));exact HO_8.out) hb);have n1_:=Aside0.mk (Kd.R_below (by (with_reducible repeat (first | apply Kd.R_alloc | apply Kd.R_drewN | apply Kd.R_drew));exact HO_9.out) hb);have n2_:=Aside0.mk (below_step (by repeat (first | (with_reducible first | exact HB.out | apply below_alloc | apply pw_below_drewN | apply below_drew1) | exact HB.out)) hb);clear HO_8;clear HO_9;clear HB;have HO_8:=n0_;have HO_9:=n1_;have HB:=n2_;clear n0_ n1_ n2_;(try clear hb)))
    go_ret
    exact ⟨by first | rfl | (simp [errW_none,errW_some] <;> rfl) | (simp [*,errW_none,errW_some] <;> rfl),by repeat (first | (with_reducible first | exact HB.out | apply below_alloc | apply pw_below_drewN | apply below_drew1) | exact HB.out)⟩
   replace c21:=Bool.eq_false_iff.mpr c21
   subst c21
   have H1:((numnahref01_Turn.f kj8 t275 t276 t279).bind fun t288=>(if t282.toList = t288.toList then (if t283 = 0 then ((numnahlaw01_awake.f).bind fun t289=>(some t289)) else (some false)) else (some false))) = some r:=by rw [if_neg (show ¬ (false = true) by decide)] at H;exact H
   clear H
   have H:=H1
   clear H1
   replace H:=Option.bind_eq_some_iff.mp H
   obtain ⟨t288,A260,H⟩:=H
   replace H:(if t282.toList = t288.toList then (if t283 = 0 then ((numnahlaw01_awake.f).bind fun t289=>(some t289)) else (some false)) else (some false)) = some r:=H
   have A26:=Aside0.mk A260
   clear A260
   by_cases c27:t282.toList = t288.toList
   case neg =>
    rw [if_neg c27] at H
    have c27b0:(t282.toList == t288.toList) = false:=beq_eq_false_iff_ne.mpr c27
    have c27b1:(t282.toList != t288.toList) = true:=bne_iff_ne.mpr c27
    obtain rfl:=Option.some.inj H
    go_wp2_with (first | ((with_reducible refine gate_callee (f:=39) rfl ?_);refine goesL_ (some 61) rfl rfl Try.func39 (by kernel_rfl) rfl #[.string t275,.slice Ao13 t276.length co13,.slice Ao14 t279.length co14] rfl (by (try simp only [List.map_toArray,List.map_cons,List.map_nil]);first | done | rfl | (simp only [List.length_drop,List.length_take];rfl)) ?_;(with_reducible refine (numnahref01_Turn.calls kj8 t275 _ _ t276 _ _ t279 t288 _ ?side1 ?side2 ?side3 ?side4 A26.out).mono ?_);(case side1=>repeat (first | exact (Kd.R_reads' HO_8.out).2.2 | (with_reducible refine Kd.C_alloc ?_ _) | (with_reducible refine Kd.C_drewN ?_ _) | (with_reducible refine Kd.C_drew ?_)));(case side2=>exact (Kd.R_reads' HO_8.out).2.1);(case side3=>repeat (first | exact (Kd.R_reads' HO_9.out).2.2 | (with_reducible refine Kd.C_alloc ?_ _) | (with_reducible refine Kd.C_drewN ?_ _) | (with_reducible refine Kd.C_drew ?_)));(case side4=>exact (Kd.R_reads' HO_9.out).2.1);rintro e w33 ⟨rfl,hb⟩;refine ⟨_,rfl,?_⟩;have n0_:=Aside0.mk (Kd.R_below (by (with_reducible repeat (first | apply Kd.R_alloc | apply Kd.R_drewN | apply Kd.R_drew));exact HO_8.out) hb);have n1_:=Aside0.mk (Kd.R_below (by (with_reducible repeat (first | apply Kd.R_alloc | apply Kd.R_drewN | apply Kd.R_drew));exact HO_9.out) hb);have n2_:=Aside0.mk (below_step (by repeat (first | (with_reducible first | exact HB.out | apply below_alloc | apply pw_below_drewN | apply below_drew1) | exact HB.out)) hb);clear HO_8;clear HO_9;clear HB;have HO_8:=n0_;have HO_9:=n1_;have HB:=n2_;clear n0_ n1_ n2_;(try clear hb)))
    go_ret
    exact ⟨by first | rfl | (simp [errW_none,errW_some] <;> rfl) | (simp [*,errW_none,errW_some] <;> rfl),by repeat (first | (with_reducible first | exact HB.out | apply below_alloc | apply pw_below_drewN | apply below_drew1) | exact HB.out)⟩
   rw [if_pos c27] at H
   have c27b0:(t282.toList == t288.toList) = true:=beq_iff_eq.mpr c27
   have c27b1:(t282.toList != t288.toList) = false:=bne_eq_false_iff_eq.mpr c27
   clear c27
   by_cases c28:t283 = 0
   case neg =>
    rw [if_neg c28] at H
    have c28b0:(t283 == 0) = false:=beq_eq_false_iff_ne.mpr c28
    have c28b1:(t283 != 0) = true:=bne_iff_ne.mpr c28
    obtain rfl:=Option.some.inj H
    go_wp2_with (first | ((with_reducible refine gate_callee (f:=39) rfl ?_);refine goesL_ (some 61) rfl rfl Try.func39 (by kernel_rfl) rfl #[.string t275,.slice Ao13 t276.length co13,.slice Ao14 t279.length co14] rfl (by (try simp only [List.map_toArray,List.map_cons,List.map_nil]);first | done | rfl | (simp only [List.length_drop,List.length_take];rfl)) ?_;(with_reducible refine (numnahref01_Turn.calls kj8 t275 _ _ t276 _ _ t279 t288 _ ?side1 ?side2 ?side3 ?side4 A26.out).mono ?_);(case side1=>repeat (first | exact (Kd.R_reads' HO_8.out).2.2 | (with_reducible refine Kd.C_alloc ?_ _) | (with_reducible refine Kd.C_drewN ?_ _) | (with_reducible refine Kd.C_drew ?_)));(case side2=>exact (Kd.R_reads' HO_8.out).2.1);(case side3=>repeat (first | exact (Kd.R_reads' HO_9.out).2.2 | (with_reducible refine Kd.C_alloc ?_ _) | (with_reducible refine Kd.C_drewN ?_ _) | (with_reducible refine Kd.C_drew ?_)));(case side4=>exact (Kd.R_reads' HO_9.out).2.1);rintro e w32 ⟨rfl,hb⟩;refine ⟨_,rfl,?_⟩;have n0_:=Aside0.mk (Kd.R_below (by (with_reducible repeat (first | apply Kd.R_alloc | apply Kd.R_drewN | apply Kd.R_drew));exact HO_8.out) hb);have n1_:=Aside0.mk (Kd.R_below (by (with_reducible repeat (first | apply Kd.R_alloc | apply Kd.R_drewN | apply Kd.R_drew));exact HO_9.out) hb);have n2_:=Aside0.mk (below_step (by repeat (first | (with_reducible first | exact HB.out | apply below_alloc | apply pw_below_drewN | apply below_drew1) | exact HB.out)) hb);clear HO_8;clear HO_9;clear HB;have HO_8:=n0_;have HO_9:=n1_;have HB:=n2_;clear n0_ n1_ n2_;(try clear hb)))
    go_ret
    exact ⟨by first | rfl | (simp [errW_none,errW_some] <;> rfl) | (simp [*,errW_none,errW_some] <;> rfl),by repeat (first | (with_reducible first | exact HB.out | apply below_alloc | apply pw_below_drewN | apply below_drew1) | exact HB.out)⟩
   rw [if_pos c28] at H
   have c28b0:(t283 == 0) = true:=beq_iff_eq.mpr c28
   have c28b1:(t283 != 0) = false:=bne_eq_false_iff_eq.mpr c28
   clear c28
   replace H:=Option.bind_eq_some_iff.mp H
   obtain ⟨t289,A290,H⟩:=H
   replace H:(some t289) = some r:=H
   have A29:=Aside0.mk A290
   clear A290
   obtain rfl:=Option.some.inj H
   go_wp2_with (first | ((with_reducible refine gate_callee (f:=39) rfl ?_);refine goesL_ (some 61) rfl rfl Try.func39 (by kernel_rfl) rfl #[.string t275,.slice Ao13 t276.length co13,.slice Ao14 t279.length co14] rfl (by (try simp only [List.map_toArray,List.map_cons,List.map_nil]);first | done | rfl | (simp only [List.length_drop,List.length_take];rfl)) ?_;(with_reducible refine (numnahref01_Turn.calls kj8 t275 _ _ t276 _ _ t279 t288 _ ?side1 ?side2 ?side3 ?side4 A26.out).mono ?_);(case side1=>repeat (first | exact (Kd.R_reads' HO_8.out).2.2 | (with_reducible refine Kd.C_alloc ?_ _) | (with_reducible refine Kd.C_drewN ?_ _) | (with_reducible refine Kd.C_drew ?_)));(case side2=>exact (Kd.R_reads' HO_8.out).2.1);(case side3=>repeat (first | exact (Kd.R_reads' HO_9.out).2.2 | (with_reducible refine Kd.C_alloc ?_ _) | (with_reducible refine Kd.C_drewN ?_ _) | (with_reducible refine Kd.C_drew ?_)));(case side4=>exact (Kd.R_reads' HO_9.out).2.1);rintro e w30 ⟨rfl,hb⟩;refine ⟨_,rfl,?_⟩;have n0_:=Aside0.mk (Kd.R_below (by (with_reducible repeat (first | apply Kd.R_alloc | apply Kd.R_drewN | apply Kd.R_drew));exact HO_8.out) hb);have n1_:=Aside0.mk (Kd.R_below (by (with_reducible repeat (first | apply Kd.R_alloc | apply Kd.R_drewN | apply Kd.R_drew));exact HO_9.out) hb);have n2_:=Aside0.mk (below_step (by repeat (first | (with_reducible first | exact HB.out | apply below_alloc | apply pw_below_drewN | apply below_drew1) | exact HB.out)) hb);clear HO_8;clear HO_9;clear HB;have HO_8:=n0_;have HO_9:=n1_;have HB:=n2_;clear n0_ n1_ n2_;(try clear hb)) | (go_at_call 22;(with_reducible refine (numnahlaw01_awake.calls  t289 _ A29.out).mono ?_);rintro e w31 ⟨rfl,hb⟩;have n0_:=Aside0.mk (Kd.R_below (by (with_reducible repeat (first | apply Kd.R_alloc | apply Kd.R_drewN | apply Kd.R_drew));exact HO_8.out) hb);have n1_:=Aside0.mk (Kd.R_below (by (with_reducible repeat (first | apply Kd.R_alloc | apply Kd.R_drewN | apply Kd.R_drew));exact HO_9.out) hb);have n2_:=Aside0.mk (below_step (by repeat (first | (with_reducible first | exact HB.out | apply below_alloc | apply pw_below_drewN | apply below_drew1) | exact HB.out)) hb);clear HO_8;clear HO_9;clear HB;have HO_8:=n0_;have HO_9:=n1_;have HB:=n2_;clear n0_ n1_ n2_;(try clear hb)))
   go_ret
   exact ⟨by first | rfl | (simp [errW_none,errW_some] <;> rfl) | (simp [*,errW_none,errW_some] <;> rfl),by repeat (first | (with_reducible first | exact HB.out | apply below_alloc | apply pw_below_drewN | apply below_drew1) | exact HB.out)⟩
def numnahlaw01_CardTurns.Pure:Prop:=∀ (a0:ByteArray) (l1:List Int) (l2:List Int),a0.size ≤ 140737488351232 → l1.length ≤ maxLen → l1.length * 8 ≤ 140737488351232 → (∀ x ∈ l1,(Lit.int .i64 x).wf = true) → l2.length ≤ maxLen → l2.length * 8 ≤ 140737488351232 → (∀ x ∈ l2,(Lit.int .i64 x).wf = true) → ∃ k,numnahlaw01_CardTurns.f k a0 l1 l2 = some true
theorem numnahlaw01_CardTurns.walk (P:numnahlaw01_CardTurns.Pure) (a0:ByteArray) (a1:Option Addr) (len1 cap1:Nat) (z1:List Int) (a2:Option Addr) (len2 cap2:Nat) (z2:List Int) (w:World) (w0:a0.size ≤ 140737488351232) (w1:(a1 = none ∧ len1 = 0 ∧ cap1 = 0 ∧ z1 = []) ∨ ∃ x,a1 = some x ∧ len1 ≤ cap1 ∧ cap1 ≤ maxLen ∧ z1.length = cap1 ∧ (∀ i,i < z1.length → w.cell? (x.add i) = some (.int .i64 (z1.getD i 0))) ∧ ∀ n ∈ z1,(Lit.int .i64 n).wf = true) (y1:len1 * 8 ≤ 140737488351232) (w2:(a2 = none ∧ len2 = 0 ∧ cap2 = 0 ∧ z2 = []) ∨ ∃ x,a2 = some x ∧ len2 ≤ cap2 ∧ cap2 ≤ maxLen ∧ z2.length = cap2 ∧ (∀ i,i < z2.length → w.cell? (x.add i) = some (.int .i64 (z2.getD i 0))) ∧ ∀ n ∈ z2,(Lit.int .i64 n).wf = true) (y2:len2 * 8 ≤ 140737488351232) :
  Calls Try.prog 6 #[.string a0,.slice a1 len1 cap1,.slice a2 len2 cap2] w fun e w'=>e = .returned (.bool true) ∧ Below w.heap.size w w':=by
 obtain ⟨l1,rfl,hr1,hm1,hw1,hc1⟩:=ReadsInt.ofRowC w1
 obtain ⟨l2,rfl,hr2,hm2,hw2,hc2⟩:=ReadsInt.ofRowC w2
 obtain ⟨k,h⟩:=P a0 l1 l2 w0 hm1 y1 hw1 hm2 y2 hw2
 refine (numnahlaw01_CardTurns.calls k a0 _ _ l1 _ _ l2 true w (Kd.C_of_reads (d:=(0:Int)) (h1:=fun _=>rfl) hr1) hc1 (Kd.C_of_reads (d:=(0:Int)) (h1:=fun _=>rfl) hr2) hc2 h).mono ?_
 rintro e w' ⟨rfl,hd⟩
 exact ⟨rfl,hd⟩
end Go.Proofs.Ythpahlkhiknofaa.G
set_option linter.unusedSectionVars false
namespace Go.Proofs.Ythpahlkhiknofaa.P
open Go Go.RowKit Go.Proofs.Ythpahlkhiknofaa.M Go.Proofs.Ythpahlkhiknofaa.G
open Go.Proofs.YthpahlkhiknofaaW.PrintWords Go.Proofs.YthpahlkhiknofaaW.PrintMore
theorem list_f (l:List Int):numnahlaw01_list.f l = some (l.take 1001):=by
 unfold numnahlaw01_list.f
 have e:mn (l.length:Int) 1001 = ((min l.length 1001:Nat):Int):=by unfold mn;split <;> omega
 rw [e,if_pos (by omega),if_pos (by omega),Int.toNat_natCast,Option.bind_some,if_pos (by rw [List.length_take,List.length_nil];omega),List.nil_append]
 congr 1
 by_cases h:l.length ≤ 1001
 ·rw [Nat.min_eq_left h,List.take_length,List.take_of_length_le h]
 ·rw [Nat.min_eq_right (by omega)]
theorem add_or:∀ (a:Fin 32) (v:Fin 5),a.val.testBit v.val = false → a.val + 2 ^ v.val = a.val ||| 2 ^ v.val:=by decide +kernel
theorem xor_small:∀ a b:Fin 32,Go.bits .xor .i64 (a.val:Int) (b.val:Int) = ((a.val ^^^ b.val:Nat):Int):=by decide +kernel
theorem shl_zero (v:Int):shl .i64 0 v = 0:=by unfold shl;rw [Int.zero_mul];decide
theorem and_one (p:Nat) (h:p < 2 ^ 60):Go.bits .and .i64 (p:Int) 1 = ((p % 2:Nat):Int):=by
 have:=ni_and p 1 (by omega) (by decide)
 rw [Nat.and_one_is_mod] at this
 exact this
def distB (n:Nat) (l:List Int):Nat → Nat → Bool:=allF fun k=>decide (0 ≤ rd l (k:Int)) && decide (rd l (k:Int) < (n:Int)) && !decide (rd l (k:Int) ∈ l.take k)
section
variable {l:List Int} (hl:l.length ≤ 1001) {n:Nat} (hn:1 ≤ n ∧ n ≤ 5)
include hl hn
theorem areVars_l0 (s:ByteArray):∀ d i,i + d = l.length → Ev (fun k=>card_function_areVars.l0 k l l (l.length:Int) (i:Int) (n:Int) s) (distB n l d i):=by
 intro d
 induction d with
 | zero =>
  intro i hi
  refine Ev.step (f:=fun _=>some true) (fun k=>?_) (Ev.now _)
  rw [card_function_areVars.l0,if_neg (by omega)]
 | succ d ih =>
  intro i hi
  have hil:i < l.length:=by omega
  have hnx:=ih (i + 1) (by omega)
  have hw:wrap64 ((n:Int) - 1) = (n:Int) - 1:=wrap_id (by omega) (by omega)
  refine Ev.step (fun k=>by rw [card_function_areVars.l0,if_pos (by omega),if_pos (by omega),if_pos (by omega),hw,wrap_succ (by omega),Int.toNat_natCast]) ?_
  unfold distB
  rw [allF]
  by_cases h0:0 ≤ rd l (i:Int)
  ·rw [decide_eq_true h0,Bool.true_and]
   by_cases h1:rd l (i:Int) < (n:Int)
   ·rw [decide_eq_true h1,Bool.true_and]
    have hwi:card_within.f (rd l (i:Int)) 0 ((n:Int) - 1) = some true:=by
     unfold card_within.f
     rw [if_pos h0,decide_eq_true (by omega)]
    rw [hwi]
    refine Ev.congr (fun k=>Option.bind_some _ _) (Ev.congr (fun k=>if_pos rfl) (Ev.congr (fun k=>if_pos (by omega)) (Ev.bind (ev_containsI (l:=l.take i) (by rw [List.length_take];omega) (rd l (i:Int))) ?_)))
    by_cases h2:rd l (i:Int) ∈ l.take i
    ·rw [decide_eq_true h2]
     exact Ev.congr (fun k=>if_pos rfl) (Ev.now _)
    ·rw [decide_eq_false h2]
     exact Ev.congr (fun k=>if_neg (by decide)) hnx
   ·rw [decide_eq_false h1,Bool.false_and,Bool.false_and]
    have hwi:card_within.f (rd l (i:Int)) 0 ((n:Int) - 1) = some false:=by
     unfold card_within.f
     rw [if_pos h0,decide_eq_false (by omega)]
    rw [hwi]
    exact Ev.congr (fun k=>Option.bind_some _ _) (Ev.congr (fun k=>if_neg (by decide)) (Ev.now _))
  ·rw [decide_eq_false h0,Bool.false_and,Bool.false_and,Bool.false_and]
   have hwi:card_within.f (rd l (i:Int)) 0 ((n:Int) - 1) = some false:=by
    unfold card_within.f
    rw [if_neg h0]
   rw [hwi]
   exact Ev.congr (fun k=>Option.bind_some _ _) (Ev.congr (fun k=>if_neg (by decide)) (Ev.now _))
theorem ev_areVars (s:ByteArray):Ev (fun k=>card_function_areVars.f k (n:Int) s l) (distB n l l.length 0):=areVars_l0 hl hn s l.length 0 (by omega)
theorem rdist_l1 {i:Nat} (hil:i < l.length) {v:Bool} (hv:Ev (fun k=>numnahref01_Distinct.l0 k l (n:Int) ((i + 1:Nat):Int)) v):∀ d j,j + d = i → Ev (fun k=>numnahref01_Distinct.l1 k l (n:Int) (i:Int) (j:Int)) (!decide (rd l (i:Int) ∈ (l.take i).drop j) && v):=by
 intro d
 induction d with
 | zero =>
  intro j hj
  have e:(l.take i).drop j = []:=List.drop_eq_nil_of_le (by rw [List.length_take];omega)
  rw [e,decide_eq_false (by simp),Bool.not_false,Bool.true_and]
  refine Ev.step (fun k=>?_) hv
  rw [numnahref01_Distinct.l1,if_neg (by omega),wrap_succ (by omega)]
 | succ d ih =>
  intro j hj
  have hjl:j < (l.take i).length:=by rw [List.length_take];omega
  have hjl2:j < l.length:=by omega
  have hnx:=ih (j + 1) (by omega)
  rw [List.drop_eq_getElem_cons hjl,List.getElem_take]
  refine Ev.step (fun k=>by rw [numnahref01_Distinct.l1,if_pos (by omega),if_pos (by omega),if_pos (by omega),if_pos (by omega),if_pos (by omega),wrap_succ (by omega)]) ?_
  by_cases h:rd l (j:Int) = rd l (i:Int)
  ·rw [decide_eq_true (by rw [← h,rd_get hjl2];exact List.mem_cons_self ..),Bool.not_true,Bool.false_and]
   exact Ev.congr (fun k=>if_pos h) (Ev.now _)
  ·have e:decide (rd l (i:Int) ∈ l[j] :: (l.take i).drop (j + 1)) = decide (rd l (i:Int) ∈ (l.take i).drop (j + 1)):=by
    congr 1
    exact propext ⟨fun hm=>(List.mem_cons.1 hm).resolve_left (fun h2=>h (by rw [rd_get hjl2];exact h2.symm)),fun hm=>List.mem_cons_of_mem _ hm⟩
   rw [e]
   exact Ev.congr (fun k=>if_neg h) hnx
theorem rdist_l0:∀ d i,i + d = l.length → Ev (fun k=>numnahref01_Distinct.l0 k l (n:Int) (i:Int)) (distB n l d i):=by
 intro d
 induction d with
 | zero =>
  intro i hi
  refine Ev.step (f:=fun _=>some true) (fun k=>?_) (Ev.now _)
  rw [numnahref01_Distinct.l0,if_neg (by omega)]
 | succ d ih =>
  intro i hi
  have hil:i < l.length:=by omega
  have hnx:=ih (i + 1) (by omega)
  refine Ev.step (fun k=>by rw [numnahref01_Distinct.l0,if_pos (by omega),if_pos (by omega)]) ?_
  unfold distB
  rw [allF]
  have bad:Ev (fun k=>numnahref01_Distinct.j1 k l (n:Int) (i:Int) true) false:=Ev.step (f:=fun _=>some false) (fun k=>by rw [numnahref01_Distinct.j1,if_pos rfl]) (Ev.now _)
  by_cases h0:0 ≤ rd l (i:Int)
  ·rw [decide_eq_true h0,Bool.true_and]
   refine Ev.congr (fun k=>if_neg (by omega)) ?_
   by_cases h1:rd l (i:Int) < (n:Int)
   ·rw [decide_eq_true h1,Bool.true_and,decide_eq_false (show ¬ rd l (i:Int) ≥ (n:Int) by omega)]
    have h2:=rdist_l1 hl hn hil hnx i 0 (by omega)
    rw [List.drop_zero] at h2
    exact Ev.step (fun k=>by rw [numnahref01_Distinct.j1,if_neg (by decide)];rfl) h2
   ·rw [decide_eq_false h1,Bool.false_and,Bool.false_and,decide_eq_true (show rd l (i:Int) ≥ (n:Int) by omega)]
    exact bad
  ·rw [decide_eq_false h0,Bool.false_and,Bool.false_and,Bool.false_and]
   exact Ev.congr (fun k=>if_pos (by omega)) bad
theorem ev_rdist:Ev (fun k=>numnahref01_Distinct.f k l (n:Int)) (distB n l l.length 0):=rdist_l0 hl hn l.length 0 (by omega)
end
structure Vs (n:Nat) (l:List Int):Prop where
 ge:∀ k (h:k < l.length),0 ≤ l[k]
 lt:∀ k (h:k < l.length),l[k] < (n:Int)
 ne:∀ j k (hj:j < k) (h:k < l.length),l[j]'(by omega) ≠ l[k]
theorem vs_of {n:Nat} {l:List Int} (h:distB n l l.length 0 = true):Vs n l:=by
 have h2:=(allF_iff _ _ _).1 h
 simp only [Bool.and_eq_true,decide_eq_true_eq,Bool.not_eq_true',decide_eq_false_iff_not] at h2
 refine ⟨fun k hk=>?_,fun k hk=>?_,fun j k hj hk he=>?_⟩
 ·have:=(h2 k (by omega) (by omega)).1.1
  rwa [rd_get hk] at this
 ·have:=(h2 k (by omega) (by omega)).1.2
  rwa [rd_get hk] at this
 ·have:=(h2 k (by omega) (by omega)).2
  rw [rd_get hk,← he] at this
  exact this (List.mem_take_iff_getElem.2 ⟨j,by omega,rfl⟩)
def setN (l:List Int) (b:Nat → Bool):Nat → Nat
 | 0=>0
 | i + 1=>if b i = true then setN l b i ||| 2 ^ (rd l (i:Int)).toNat else setN l b i
theorem setN_lt {n:Nat} (hn:n ≤ 5) {l:List Int} (h:Vs n l) (b:Nat → Bool):∀ i,i ≤ l.length → setN l b i < 2 ^ n
 | 0,_=>Nat.two_pow_pos n
 | i + 1,hi=>by
  have ih:=setN_lt hn h b i (by omega)
  rw [setN]
  split
  ·have:=h.lt i (by omega)
   have:=h.ge i (by omega)
   rw [rd_get (show i < l.length by omega)]
   exact Nat.or_lt_two_pow ih (Nat.pow_lt_pow_right (by decide) (by omega))
  ·exact ih
theorem setN_bit {n:Nat} {l:List Int} (h:Vs n l) (b:Nat → Bool) (v:Nat):∀ i,i ≤ l.length → ((setN l b i).testBit v = true ↔ ∃ j,∃ hj:j < l.length,j < i ∧ b j = true ∧ l[j] = (v:Int))
 | 0,_=>by simp [setN]
 | i + 1,hi=>by
  have ih:=setN_bit h b v i (by omega)
  have hil:i < l.length:=by omega
  have hge:=h.ge i hil
  rw [setN,rd_get hil]
  by_cases hb:b i = true
  ·rw [if_pos hb,Nat.testBit_or,Bool.or_eq_true,ih]
   constructor
   ·rintro (⟨j,hj,h1,h2,h3⟩ | h1)
    ·exact ⟨j,hj,by omega,h2,h3⟩
    ·refine ⟨i,hil,by omega,hb,?_⟩
     have:l[i].toNat = v:=by
      apply Classical.byContradiction
      intro hne
      rw [Nat.testBit_two_pow_of_ne hne] at h1;cases h1
     omega
   ·rintro ⟨j,hj,h1,h2,h3⟩
    by_cases e:j = i
    ·subst e
     right
     have:l[j].toNat = v:=by omega
     rw [this];exact Nat.testBit_two_pow_self
    ·exact .inl ⟨j,hj,by omega,h2,h3⟩
  ·rw [if_neg hb,ih]
   constructor
   ·rintro ⟨j,hj,h1,h2,h3⟩
    exact ⟨j,hj,by omega,h2,h3⟩
   ·rintro ⟨j,hj,h1,h2,h3⟩
    by_cases e:j = i
    ·subst e;exact absurd h2 hb
    ·exact ⟨j,hj,by omega,h2,h3⟩
theorem setN_add {n:Nat} (hn:n ≤ 5) {l:List Int} (h:Vs n l) (b:Nat → Bool) {i:Nat} (hi:i < l.length):setN l b i + 2 ^ (rd l (i:Int)).toNat = setN l b i ||| 2 ^ (rd l (i:Int)).toNat:=by
 have hlt:=setN_lt hn h b i (by omega)
 have h32:2 ^ n ≤ 2 ^ 5:=Nat.pow_le_pow_right (by decide) hn
 have hg:=h.ge i hi
 have hl:=h.lt i hi
 rw [rd_get hi]
 refine add_or ⟨setN l b i,by omega⟩ ⟨l[i].toNat,by omega⟩ ?_
 show (setN l b i).testBit l[i].toNat = false
 cases hb:(setN l b i).testBit l[i].toNat
 ·rfl
 ·obtain ⟨j,hj,h1,_,h3⟩:=(setN_bit h b l[i].toNat i (by omega)).1 hb
  exact absurd (show l[j] = l[i] by omega) (h.ne j i h1 hi)
section
variable {c:ByteArray} {n:Nat} (hn:1 ≤ n ∧ n ≤ 5) (hs:c.size = 2 ^ n) {o fl:List Int} (ho:Vs n o) (hol:o.length = n) (hf:Vs n fl) (hfl:fl.length ≤ 1001)
include hn hs ho hol hf hfl
def bitF (fl:List Int) (p i:Nat):Bool:=p.testBit i != decide ((i:Int) ∈ fl)
def outF (c:ByteArray) (o fl:List Int) (p:Nat):Int:=bt c ((setN o (bitF fl p) o.length:Nat):Int)
theorem size_le:c.size ≤ 32:=by
 have:2 ^ n ≤ 2 ^ 5:=Nat.pow_le_pow_right (by decide) hn.2
 omega
theorem turn_l1 {x:List Int} {p:Nat} (hp:p < c.size) (hx:x.length = c.size) {v:ByteArray × Int} (hv:Ev (fun k=>card_Turn.l0 k c o fl (x.set p (outF c o fl p)) (c.size:Int) ((p + 1:Nat):Int)) v):∀ d i,i + d = o.length → Ev (fun k=>card_Turn.l1 k c o fl x (p:Int) (setN o (bitF fl p) i:Int) (c.size:Int) (p:Int) o (o.length:Int) (i:Int)) v:=by
 have h32:=size_le hn hs ho hol hf hfl
 intro d
 induction d with
 | zero =>
  intro i hi
  obtain rfl:i = o.length:=by omega
  have hlt:=setN_lt hn.2 ho (bitF fl p) o.length (by omega)
  refine Ev.step (fun k=>?_) hv
  rw [card_Turn.l1,if_neg (by omega),if_pos (by omega),if_pos (by omega),if_pos (by omega),if_pos (by omega),wrap_succ (by omega),Int.toNat_natCast]
  rfl
 | succ d ih =>
  intro i hi
  have hil:i < o.length:=by omega
  have hnx:=ih (i + 1) (by omega)
  have hg:=ho.ge i hil
  have hl:=ho.lt i hil
  have hlt:=setN_lt hn.2 ho (bitF fl p) i (by omega)
  have hpow:2 ^ n ≤ 32:=by omega
  obtain ⟨a,ha⟩:∃ a:Nat,o[i] = (a:Int):=⟨o[i].toNat,by omega⟩
  have hra:rd o (i:Int) = (a:Int):=by rw [rd_get hil,ha]
  have hap:2 ^ a ≤ 32:=by
   have:2 ^ a ≤ 2 ^ 5:=Nat.pow_le_pow_right (by decide) (by omega)
   omega
  rw [setN,hra,Int.toNat_natCast] at hnx
  have hpw:p >>> i < 2 ^ 60:=Nat.lt_of_le_of_lt (by rw [Nat.shiftRight_eq_div_pow];exact Nat.div_le_self _ _) (show p < 2 ^ 60 by omega)
  have hbit:Go.bits .and .i64 (shr .i64 (p:Int) (i:Int)) 1 = if p.testBit i = true then 1 else 0:=by
   rw [shr_nat (by omega),and_one _ hpw,Nat.testBit_eq_decide_div_mod_eq,← Nat.shiftRight_eq_div_pow]
   rcases Nat.mod_two_eq_zero_or_one (p >>> i) with h | h <;> simp [h]
  have or0:Go.bits .or .i64 (setN o (bitF fl p) i:Int) 0 = (setN o (bitF fl p) i:Int):=by
   have:=ni_or (setN o (bitF fl p) i) 0 (by omega) (by decide)
   rw [Nat.or_zero] at this
   exact this
  have or1:Go.bits .or .i64 (setN o (bitF fl p) i:Int) ((2 ^ a:Nat):Int) = ((setN o (bitF fl p) i ||| 2 ^ a:Nat):Int):=ni_or _ _ (by omega) (by omega)
  refine Ev.step (fun k=>by rw [card_Turn.l1,if_pos (by omega),if_pos (by omega),if_pos (by omega),hra,hbit,wrap_succ (by omega)]) (Ev.bind (ev_containsI (l:=fl) (by omega) (i:Int)) ?_)
  unfold bitF at hnx
  by_cases hm:(i:Int) ∈ fl
  ·rw [decide_eq_true hm] at hnx ⊢
   refine Ev.congr (fun k=>if_pos rfl) (Ev.congr (fun k=>if_pos (by omega)) ?_)
   by_cases hb:p.testBit i = true
   ·rw [hb,if_neg (by decide)] at hnx
    rw [if_pos hb,show wrap64 (1 - 1) = 0 from wrap_id (by decide) (by decide),shl_zero,or0]
    exact hnx
   ·have hb':p.testBit i = false:=by simpa using hb
    rw [hb',if_pos (by decide)] at hnx
    rw [if_neg hb,show wrap64 (1 - 0) = 1 from wrap_id (by decide) (by decide),shl_one (by omega),or1]
    exact hnx
  ·rw [decide_eq_false hm] at hnx ⊢
   refine Ev.congr (fun k=>if_neg (by decide)) (Ev.congr (fun k=>if_pos (by omega)) ?_)
   by_cases hb:p.testBit i = true
   ·rw [hb,if_pos (by decide)] at hnx
    rw [if_pos hb,shl_one (by omega),or1]
    exact hnx
   ·have hb':p.testBit i = false:=by simpa using hb
    rw [hb',if_neg (by decide)] at hnx
    rw [if_neg hb,shl_zero,or0]
    exact hnx
def part (c:ByteArray) (o fl:List Int) (i d:Nat):List Int:=(List.range i).map (outF c o fl) ++ List.replicate d 0
omit hn hs ho hol hf hfl in
theorem part_set (i d:Nat):(part c o fl i (d + 1)).set i (outF c o fl i) = part c o fl (i + 1) d:=by
 unfold part
 rw [List.set_append_right _ _ (by simp),List.length_map,List.length_range,Nat.sub_self,List.replicate_succ,List.set_cons_zero,List.range_succ,List.map_append,List.append_assoc]
 rfl
omit hn hs ho hol hf hfl in
theorem part_len (i d:Nat):(part c o fl i d).length = i + d:=by unfold part;simp
theorem turn_l0:∀ d i,i + d = c.size → Ev (fun k=>card_Turn.l0 k c o fl (part c o fl i d) (c.size:Int) (i:Int)) (strOfNums (part c o fl c.size 0),0):=by
 have h32:=size_le hn hs ho hol hf hfl
 intro d
 induction d with
 | zero =>
  intro i hi
  obtain rfl:i = c.size:=by omega
  refine Ev.step (f:=fun _=>some (strOfNums (part c o fl c.size 0),0)) (fun k=>?_) (Ev.now _)
  rw [card_Turn.l0,if_neg (by omega)]
 | succ d ih =>
  intro i hi
  have hnx:=ih (i + 1) (by omega)
  rw [← part_set] at hnx
  have h1:=turn_l1 hn hs ho hol hf hfl (x:=part c o fl i (d + 1)) (p:=i) (by omega) (by rw [part_len];omega) hnx o.length 0 (by omega)
  refine Ev.step (fun k=>?_) h1
  rw [card_Turn.l0,if_pos (by omega)]
  rfl
theorem rturn_l2 {x:List Int} {p T:Nat} (hp:p < c.size) (hx:x.length ≤ c.size) (hT:T < 2 ^ n) (hTb:∀ i,T.testBit i = decide ((i:Int) ∈ fl)) {v:ByteArray} (hv:Ev (fun k=>numnahref01_Turn.l1 k c o (n:Int) (T:Int) (x ++ [outF c o fl p]) ((p + 1:Nat):Int)) v):∀ d i,i + d = o.length → Ev (fun k=>numnahref01_Turn.l2 k c o (n:Int) (T:Int) x (p:Int) (setN o (bitF fl p) i:Int) (i:Int)) v:=by
 have h32:=size_le hn hs ho hol hf hfl
 intro d
 induction d with
 | zero =>
  intro i hi
  obtain rfl:i = o.length:=by omega
  have hlt:=setN_lt hn.2 ho (bitF fl p) o.length (by omega)
  refine Ev.step (fun k=>?_) hv
  rw [numnahref01_Turn.l2,if_neg (by omega),if_pos (by omega),if_pos (by omega),if_pos (by omega),wrap_succ (by omega)]
  rfl
 | succ d ih =>
  intro i hi
  have hil:i < o.length:=by omega
  have hnx:=ih (i + 1) (by omega)
  have hg:=ho.ge i hil
  have hl:=ho.lt i hil
  have hlt:=setN_lt hn.2 ho (bitF fl p) i (by omega)
  have hadd:=setN_add hn.2 ho (bitF fl p) hil
  have hpow:2 ^ n ≤ 32:=by omega
  obtain ⟨a,ha⟩:∃ a:Nat,o[i] = (a:Int):=⟨o[i].toNat,by omega⟩
  have hra:rd o (i:Int) = (a:Int):=by rw [rd_get hil,ha]
  have hap:2 ^ a ≤ 32:=by
   have:2 ^ a ≤ 2 ^ 5:=Nat.pow_le_pow_right (by decide) (by omega)
   omega
  rw [hra,Int.toNat_natCast] at hadd
  rw [setN,hra,Int.toNat_natCast,← hadd] at hnx
  have hx2:Go.bits .xor .i64 (p:Int) (T:Int) = ((p ^^^ T:Nat):Int):=xor_small ⟨p,by omega⟩ ⟨T,by omega⟩
  have hdig:Int.tmod (shr .i64 (Go.bits .xor .i64 (p:Int) (T:Int)) (i:Int)) 2 = if bitF fl p i = true then 1 else 0:=by
   rw [hx2,digit (by omega),Nat.testBit_xor,hTb]
   rfl
  refine Ev.step (fun k=>by rw [numnahref01_Turn.l2,if_pos (by omega),if_pos (by omega),if_pos (by omega),hra,if_pos (by omega),hdig,wrap_succ (by omega)]) ?_
  by_cases hb:bitF fl p i = true
  ·rw [if_pos hb] at hnx ⊢
   rw [shl_one (by omega),wrap_id (by omega) (by omega)]
   have e:(setN o (bitF fl p) i:Int) + ((2 ^ a:Nat):Int) = ((setN o (bitF fl p) i + 2 ^ a:Nat):Int):=by omega
   rw [e]
   exact hnx
  ·rw [if_neg hb] at hnx ⊢
   rw [shl_zero,Int.add_zero,wrap_id (by omega) (by omega)]
   exact hnx
theorem rturn_l1 {T:Nat} (hT:T < 2 ^ n) (hTb:∀ i,T.testBit i = decide ((i:Int) ∈ fl)):∀ d i,i + d = c.size → Ev (fun k=>numnahref01_Turn.l1 k c o (n:Int) (T:Int) (part c o fl i 0) (i:Int)) (strOfNums (part c o fl c.size 0)):=by
 have h32:=size_le hn hs ho hol hf hfl
 intro d
 induction d with
 | zero =>
  intro i hi
  obtain rfl:i = c.size:=by omega
  refine Ev.step (f:=fun _=>some (strOfNums (part c o fl c.size 0))) (fun k=>?_) (Ev.now _)
  rw [numnahref01_Turn.l1,if_neg (by omega)]
 | succ d ih =>
  intro i hi
  have hnx:=ih (i + 1) (by omega)
  have e:part c o fl (i + 1) 0 = part c o fl i 0 ++ [outF c o fl i]:=by
   unfold part
   simp [List.range_succ]
  rw [e] at hnx
  have h1:=rturn_l2 hn hs ho hol hf hfl (x:=part c o fl i 0) (p:=i) (by omega) (by rw [part_len];omega) hT hTb hnx o.length 0 (by omega)
  refine Ev.step (fun k=>?_) h1
  rw [numnahref01_Turn.l1,if_pos (by omega)]
  rfl
theorem rturn_l0:∀ d i,i + d = fl.length → Ev (fun k=>numnahref01_Turn.l0 k c o fl (n:Int) (setN fl (fun _=>true) i:Int) (i:Int)) (strOfNums (part c o fl c.size 0)):=by
 have h32:=size_le hn hs ho hol hf hfl
 intro d
 induction d with
 | zero =>
  intro i hi
  obtain rfl:i = fl.length:=by omega
  have hT:=setN_lt hn.2 hf (fun _=>true) fl.length (by omega)
  have hTb:∀ i,(setN fl (fun _=>true) fl.length).testBit i = decide ((i:Int) ∈ fl):=fun i=>by
   rw [Bool.eq_iff_iff,setN_bit hf (fun _=>true) i fl.length (by omega),decide_eq_true_iff]
   constructor
   ·rintro ⟨j,hj,_,_,h⟩
    rw [← h];exact List.getElem_mem _
   ·intro h
    obtain ⟨j,hj,h⟩:=List.getElem_of_mem h
    exact ⟨j,hj,hj,rfl,h⟩
  refine Ev.step (fun k=>?_) (rturn_l1 hn hs ho hol hf hfl hT hTb c.size 0 (by omega))
  rw [numnahref01_Turn.l0,if_neg (by omega)]
  rfl
 | succ d ih =>
  intro i hi
  have hil:i < fl.length:=by omega
  have hnx:=ih (i + 1) (by omega)
  have hg:=hf.ge i hil
  have hl:=hf.lt i hil
  have hlt:=setN_lt hn.2 hf (fun _=>true) i (by omega)
  have hadd:=setN_add hn.2 hf (fun _=>true) hil
  have hpow:2 ^ n ≤ 32:=by omega
  obtain ⟨a,ha⟩:∃ a:Nat,fl[i] = (a:Int):=⟨fl[i].toNat,by omega⟩
  have hra:rd fl (i:Int) = (a:Int):=by rw [rd_get hil,ha]
  have hap:2 ^ a ≤ 32:=by
   have:2 ^ a ≤ 2 ^ 5:=Nat.pow_le_pow_right (by decide) (by omega)
   omega
  rw [hra,Int.toNat_natCast] at hadd
  rw [setN,if_pos rfl,hra,Int.toNat_natCast,← hadd] at hnx
  have e:wrap64 ((setN fl (fun _=>true) i:Int) + ((2 ^ a:Nat):Int)) = ((setN fl (fun _=>true) i + 2 ^ a:Nat):Int):=by
   rw [wrap_id (by omega) (by omega)];omega
  refine Ev.step (fun k=>?_) hnx
  rw [numnahref01_Turn.l0,if_pos (by omega),if_pos (by omega),hra,if_pos (by omega),shl_one (by omega),e,wrap_succ (by omega)]
end
theorem turns_pure (a0:ByteArray) (l1 l2:List Int):∃ k,numnahlaw01_CardTurns.f k a0 l1 l2 = some true:=by
 refine Ev.rounds ?_
 unfold numnahlaw01_CardTurns.f
 obtain ⟨c,hc,e0⟩:=short_f a0
 rw [e0,list_f,list_f]
 simp only [Option.bind_some]
 obtain ⟨o,ho⟩:∃ o,l1.take 1001 = o:=⟨_,rfl⟩
 obtain ⟨fl,hf⟩:∃ fl,l2.take 1001 = fl:=⟨_,rfl⟩
 have hol:o.length ≤ 1001:=by rw [← ho,List.length_take];omega
 have hfl:fl.length ≤ 1001:=by rw [← hf,List.length_take];omega
 rw [ho,hf]
 obtain ⟨m,hm,en⟩:=newF hc
 have ev:=ev_vars hc
 have hnil:(⟨#[]⟩:ByteArray).toList = []:=List.eq_nil_of_length_eq_zero (toList_len _)
 have jt:Ev (fun k=>card_Turn.j0 k c o fl true) ((⟨#[]⟩:ByteArray),2):=Ev.step (f:=fun _=>some ((⟨#[]⟩:ByteArray),2)) (fun k=>by rw [card_Turn.j0,if_pos rfl]) (Ev.now _)
 have js:Ev (fun k=>numnahlaw01_CardTurns.j0 k c o fl (⟨#[]⟩:ByteArray) 2 true) true:=Ev.step (fun k=>by rw [numnahlaw01_CardTurns.j0,if_pos rfl,if_pos hnil,if_pos rfl]) ev_aw
 by_cases h0:fnN c = 0
 ·have e1:Ev (fun k=>card_Turn.f k c o fl) ((⟨#[]⟩:ByteArray),2):=by
   unfold card_Turn.f
   rw [en]
   refine Ev.congr (fun k=>Option.bind_some _ _) (Ev.congr (fun k=>if_neg ?_) jt)
   show ¬ decide (fnN c ≠ 0) = true
   rw [h0];decide
  rw [h0] at ev
  exact Ev.bind e1 (Ev.bind ev (Ev.congr (fun k=>if_pos rfl) js))
 ·obtain ⟨hok,hs,h1,h5,h32⟩:=fnN_pos hc h0
  have hmn:=hm h0
  subst hmn
  have hn:1 ≤ fnN c ∧ fnN c ≤ 5:=⟨h1,h5⟩
  have a1:=ev_areVars hol hn c
  have a2:=ev_areVars hfl hn c
  have r1:=ev_rdist hol hn
  have r2:=ev_rdist hfl hn
  have bad:¬ (distB (fnN c) o o.length 0 = true ∧ o.length = fnN c ∧ distB (fnN c) fl fl.length 0 = true) → Ev (fun k=>card_Turn.f k c o fl) ((⟨#[]⟩:ByteArray),2):=fun hbad=>by
   unfold card_Turn.f
   rw [en]
   refine Ev.congr (fun k=>Option.bind_some _ _) (Ev.congr (fun k=>if_pos (decide_eq_true h0)) (Ev.bind a1 ?_))
   by_cases b1:distB (fnN c) o o.length 0 = true
   ·refine Ev.congr (fun k=>if_pos b1) ?_
    by_cases b2:(o.length:Int) = (fnN c:Int)
    ·refine Ev.congr (fun k=>if_pos b2) (Ev.bind a2 ?_)
     have b3:distB (fnN c) fl fl.length 0 = false:=by
      cases h:distB (fnN c) fl fl.length 0
      ·rfl
      ·exact absurd ⟨b1,by omega,h⟩ hbad
     rw [b3]
     exact jt
    ·exact Ev.congr (fun k=>if_neg b2) jt
   ·exact Ev.congr (fun k=>if_neg b1) jt
  by_cases b2:o.length = fnN c
  ·by_cases b1:distB (fnN c) o o.length 0 = true
   ·by_cases b3:distB (fnN c) fl fl.length 0 = true
    ·rw [b1] at a1 r1
     rw [b3] at a2 r2
     have vo:=vs_of b1
     have vf:=vs_of b3
     have t0:=turn_l0 hn hs vo b2 vf hfl c.size 0 (by omega)
     have r0:=rturn_l0 hn hs vo b2 vf hfl fl.length 0 (by omega)
     have e1:Ev (fun k=>card_Turn.f k c o fl) (strOfNums (part c o fl c.size 0),0):=by
      unfold card_Turn.f
      rw [en]
      refine Ev.congr (fun k=>Option.bind_some _ _) (Ev.congr (fun k=>if_pos (decide_eq_true h0)) (Ev.bind a1 (Ev.congr (fun k=>if_pos rfl) (Ev.congr (fun k=>if_pos (by omega)) (Ev.bind a2 ?_)))))
      refine Ev.step (fun k=>?_) t0
      rw [card_Turn.j0,if_neg (by decide),if_pos (by omega),if_pos (by rw [Int.toNat_natCast];omega),Option.bind_some,List.length_replicate,Int.toNat_natCast]
      rfl
     have e2:Ev (fun k=>numnahref01_Turn.f k c o fl) (strOfNums (part c o fl c.size 0)):=by
      unfold numnahref01_Turn.f
      exact Ev.bind ev r0
     refine Ev.bind e1 (Ev.bind ev (Ev.congr (fun k=>if_neg (by omega)) (Ev.congr (fun k=>if_pos (by omega)) (Ev.bind r1 (Ev.congr (fun k=>if_pos rfl) (Ev.bind r2 ?_))))))
     exact Ev.step (fun k=>by rw [numnahlaw01_CardTurns.j0,if_neg (by decide)]) (Ev.bind e2 (Ev.congr (fun k=>if_pos rfl) (Ev.congr (fun k=>if_pos rfl) ev_aw)))
    ·have b3':distB (fnN c) fl fl.length 0 = false:=by simpa using b3
     rw [b1] at r1
     rw [b3'] at r2
     exact Ev.bind (bad fun h=>b3 h.2.2) (Ev.bind ev (Ev.congr (fun k=>if_neg (by omega)) (Ev.congr (fun k=>if_pos (by omega)) (Ev.bind r1 (Ev.congr (fun k=>if_pos rfl) (Ev.bind r2 js))))))
   ·have b1':distB (fnN c) o o.length 0 = false:=by simpa using b1
    rw [b1'] at r1
    exact Ev.bind (bad fun h=>b1 h.1) (Ev.bind ev (Ev.congr (fun k=>if_neg (by omega)) (Ev.congr (fun k=>if_pos (by omega)) (Ev.bind r1 (Ev.congr (fun k=>if_neg (by decide)) js)))))
  ·exact Ev.bind (bad fun h=>b2 h.2.1) (Ev.bind ev (Ev.congr (fun k=>if_neg (by omega)) (Ev.congr (fun k=>if_neg (by omega)) js)))
theorem turns_Pure:numnahlaw01_CardTurns.Pure:=fun a0 l1 l2 _ _ _ _ _ _ _=>turns_pure a0 l1 l2
end Go.Proofs.Ythpahlkhiknofaa.P
