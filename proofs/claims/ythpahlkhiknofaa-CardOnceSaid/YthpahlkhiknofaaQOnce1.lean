/- Several texts, joined. -/
import Derived.WalkKit
import Derived.ProofKit
import Derived.OpenShut
import Derived.ShutString
import Derived.ChangeOld
import Derived.ChangeSame
import Derived.Below
import Derived.SizedLaws
import Derived.Lib.Hide
import Derived.WalkSpells
import Derived.WalkLawsBesides
import Derived.Deep.DeepFit
import Derived.OwnWalkIn
import Derived.TacticsInMore
import Derived.LoopNIn
import Derived.LoopIn
import Derived.Sort.QuietIn
import Derived.Sort.BigQuietIn
import Derived.Sort.QuietTacIn
import Derived.Sort.LoopGhostIn
import Derived.Stop.RegionWithIn
import Derived.Maps.OwnIn
import Derived.Shelf.Abstract
import Derived.Shelf.RegionOpen
import Derived.RangeFuncRecord
import Derived.BigRegion
import Derived.Laws.Tables
import Derived.Deep.QuietTactic
import Derived.BigQuiet
import Derived.Test.YthpahlkhiknofaaRows
import Derived.Test.YthpahlkhiknofaaQN2
namespace Go.Proofs.Ythpahlkhiknofaa.ArrEq
end Go.Proofs.Ythpahlkhiknofaa.ArrEq
namespace Go.Proofs.Ythpahlkhiknofaa.G
end Go.Proofs.Ythpahlkhiknofaa.G
namespace Go.Proofs.Ythpahlkhiknofaa.H
end Go.Proofs.Ythpahlkhiknofaa.H
namespace Go.Proofs.Ythpahlkhiknofaa.P
end Go.Proofs.Ythpahlkhiknofaa.P
namespace Go.Proofs.Ythpahlkhiknofaa.Row
end Go.Proofs.Ythpahlkhiknofaa.Row
set_option linter.unusedVariables false
set_option linter.unusedSimpArgs false
namespace Go.Proofs.Ythpahlkhiknofaa.Row
open Go Go.ChangeShapes Go.WideShapes Go.ChangeAt Go.RowKit Go.Proofs.Ythpahlkhiknofaa.G Go.Proofs.YthpahlkhiknofaaW.PrintWords
section
variable {H:Type} {enc:TypeId × Value → H} {w:World} {base:Nat} {spare:Nat → Bool} {held:Bool} {fuel:Nat} {cs:List Value} {x:DataW H × List MemPlace}
theorem open_list (h:DataW.trod enc Try.prog w base spare held fuel 22 cs = some x):∃ (A:Option Addr) (l:List Int) (c:Nat),cs = [.slice A l.length c] ∧ l.length ≤ c ∧ Kd.C (Kd.int .i64) w A l.length l:=by
 rcases open_ints Try.underlying22 Try.underlying3 (by kernel_rfl) h with ⟨rfl,_⟩ | ⟨a,len,cap,zs,rfl,_,hl,hm,hz,_,hcell,_⟩
 ·exact ⟨none,[],0,rfl,Nat.le_refl _,rfl,by decide,fun h=>by simp at h⟩
 ·have hzl:len ≤ zs.length:=by rw [hz];split <;> omega
  have hll:(zs.take len).length = len:=by rw [List.length_take];omega
  have hm':cap ≤ 9223372036854775807:=hm
  refine ⟨some a,zs.take len,cap,by rw [hll],by rw [hll];exact hl,rfl,by rw [hll];omega,fun _=>⟨a,rfl,fun j p hj=>?_⟩⟩
  rw [List.getElem?_take] at hj
  split at hj
  ·refine ⟨[.int .i64 p],rfl,rfl,fun i u hu=>?_⟩
   rcases i with _ | i
   ·simp only [List.getElem?_cons_zero,Option.some.injEq] at hu
    subst hu
    have hjl:=(List.getElem?_eq_some_iff.1 hj).1
    have:=hcell j hjl
    rw [List.getD_eq_getElem?_getD,hj,Option.getD_some] at this
    show w.cell? (a.add (j * 1 + 0)) = _
    rw [Nat.mul_one,Nat.add_zero]
    exact this
   ·simp at hu
  ·cases hj
set_option maxRecDepth 100000 in
theorem open_list1 {r:Reach} {b0:Nat} {v:Value} {d:DataW H} {p:List MemPlace} (hv:Value.okWide Try.prog w r b0 22 v) (h:DataW.Trod enc Try.prog w base spare held 22 v d p):∃ (A:Option Addr) (l:List Int) (c:Nat),v = .slice A l.length c ∧ l.length ≤ c ∧ Kd.C (Kd.int .i64) w A l.length l:=by
 obtain ⟨A,len,cap,rfl⟩:=okWide_slice Try.underlying22 hv
 obtain ⟨m,hm⟩:=h
 obtain ⟨A',l,c,e,r⟩:=open_list hm
 have e2:[Value.slice A len cap] = [.slice A' l.length c]:=e
 injection e2 with e2 _
 exact ⟨A',l,c,e2,r⟩
theorem open_ll (h:DataW.trod enc Try.prog w base spare held fuel 23 cs = some x):∃ (A:Option Addr) (l:List (List Int)) (c:Nat),cs = [.slice A l.length c] ∧ l.length ≤ c ∧ Kd.C (Kd.slice 3 (Kd.int .i64)) w A l.length l:=by
 rcases DataW.trod_slice Try.underlying23 h with ⟨rfl,_⟩ | ⟨a,len,cap,elems,rest,n,_,rfl,_,hb,hl,hm,hlen,hel,_,_⟩
 ·exact ⟨none,[],0,rfl,Nat.le_refl _,rfl,by decide,fun h=>by simp at h⟩
 ·have hm':cap ≤ 9223372036854775807:=hm
  have c22:Try.prog.cellsOf 22 = 1:=by kernel_rfl
  have key:∀ i,i < len → ∃ z:List Int × Option Addr × Nat,w.cell? (a.add i) = some (.slice z.2.1 z.1.length z.2.2) ∧ z.1.length ≤ z.2.2 ∧ Kd.C (Kd.int .i64) w z.2.1 z.1.length z.1:=by
   intro i hi
   have h0:=hel i hi
   rw [List.getElem?_eq_getElem (by omega),Option.bind_eq_some_iff,c22] at h0
   obtain ⟨cs',h1,h2⟩:=h0
   obtain ⟨_,hcl,hcc⟩:=World.cells?_some h1
   obtain ⟨A1,l1,c1,q1,b1,r1⟩:=open_list h2
   have k0:=hcc 0 (by omega)
   refine ⟨(l1,A1,c1),?_,b1,r1⟩
   have e:(a.add (i * 1)).add 0 = a.add i:=by rw [Nat.mul_one];rfl
   rw [e] at k0
   rw [k0,q1];rfl
  obtain ⟨f,hf⟩:∃ f:Nat → List Int × Option Addr × Nat,∀ i,i < len → w.cell? (a.add i) = some (.slice (f i).2.1 (f i).1.length (f i).2.2) ∧ (f i).1.length ≤ (f i).2.2 ∧ Kd.C (Kd.int .i64) w (f i).2.1 (f i).1.length (f i).1 :=
   ⟨fun i=>if h:i < len then Classical.choose (key i h) else ([],none,0),fun i hi=>by simp only [dif_pos hi];exact Classical.choose_spec (key i hi)⟩
  have hll:((List.range len).map fun i=>(f i).1).length = len:=by simp
  refine ⟨some a,(List.range len).map fun i=>(f i).1,cap,by rw [hll],by rw [hll];exact hl,rfl,by rw [hll];omega,fun _=>⟨a,rfl,fun j p hj=>?_⟩⟩
  rw [List.getElem?_map,Option.map_eq_some_iff] at hj
  obtain ⟨i,hi,rfl⟩:=hj
  have hil:=(List.getElem?_eq_some_iff.1 hi).1
  rw [List.length_range] at hil
  rw [List.getElem?_range hil,Option.some.injEq] at hi
  subst hi
  obtain ⟨s1,s2,s3⟩:=hf j hil
  refine ⟨[.slice (f j).2.1 (f j).1.length (f j).2.2],rfl,⟨_,_,rfl,s2,s3⟩,fun i u hu=>?_⟩
  show w.cell? (a.add (j * 1 + i)) = _
  rcases i with _ | i
  ·simp only [List.getElem?_cons_zero,Option.some.injEq] at hu;subst hu;rw [Nat.mul_one];exact s1
  ·simp at hu
set_option maxRecDepth 100000 in
theorem open_ll1 {r:Reach} {b0:Nat} {v:Value} {d:DataW H} {p:List MemPlace} (hv:Value.okWide Try.prog w r b0 23 v) (h:DataW.Trod enc Try.prog w base spare held 23 v d p):∃ (A:Option Addr) (l:List (List Int)) (c:Nat),v = .slice A l.length c ∧ l.length ≤ c ∧ Kd.C (Kd.slice 3 (Kd.int .i64)) w A l.length l:=by
 obtain ⟨A,len,cap,rfl⟩:=okWide_slice Try.underlying23 hv
 obtain ⟨m,hm⟩:=h
 obtain ⟨A',l,c,e,r⟩:=open_ll hm
 have e2:[Value.slice A len cap] = [.slice A' l.length c]:=e
 injection e2 with e2 _
 exact ⟨A',l,c,e2,r⟩
end
end Go.Proofs.Ythpahlkhiknofaa.Row
set_option linter.unusedSectionVars false
namespace Go.Proofs.Ythpahlkhiknofaa.P
open Go Go.RowKit Go.Proofs.Ythpahlkhiknofaa.M Go.Proofs.Ythpahlkhiknofaa.G
open Go.Proofs.YthpahlkhiknofaaW.PrintWords Go.Proofs.YthpahlkhiknofaaW.PrintMore
theorem ev_aw:Ev (fun _=>(numnahlaw01_awake.f).bind fun t=>some t) true:=Ev.now _
end Go.Proofs.Ythpahlkhiknofaa.P
namespace Go.Proofs.Ythpahlkhiknofaa.G
open Go.RowKit Go.Proofs.YthpahlkhiknofaaW.PrintWords Go.Proofs.YthpahlkhiknofaaW.PrintLast Go.Proofs.YthpahlkhiknofaaW.PrintMore
set_option maxHeartbeats 8000000
set_option maxRecDepth 100000
attribute [local go_sem] max2_int min2_int max_two min_two max_three min_three max_four min_four   -- for this text's walks alone
def card_within.f (a0:Int) (a1:Int) (a2:Int):Option (Bool):=if a0 ≥ a1 then (some (decide (a0 ≤ a2))) else (some false)
theorem card_within.calls (a0:Int) (a1:Int) (a2:Int) (r:Bool) (w:World) (h:card_within.f a0 a1 a2 = some r) :
  Calls Try.prog 61 #[.int .i64 a0,.int .i64 a1,.int .i64 a2] w fun e w'=>e = .returned (.bool r) ∧ Drawn0 w w':=by
 have H:(if a0 ≥ a1 then (some (decide (a0 ≤ a2))) else (some false)) = some r:=h
 clear h
 by_cases c4:a0 ≥ a1
 ·rw [if_pos c4] at H
  have c4b0:decide (a1 ≤ a0) = true:=decide_eq_true c4
  clear c4
  obtain rfl:=Option.some.inj H
  go_enter Try.func61,Try.ntmps61
  go_wp2
  go_ret
  exact ⟨by first | rfl | (simp;done) | (simp [*];done),by repeat (first | exact Drawn0.refl _ | apply Drawn0.step)⟩
 rw [if_neg c4] at H
 have c4b0:decide (a1 ≤ a0) = false:=decide_eq_false c4
 clear c4
 obtain rfl:=Option.some.inj H
 go_enter Try.func61,Try.ntmps61
 go_wp2
 go_ret
 exact ⟨by first | rfl | (simp;done) | (simp [*];done),by repeat (first | exact Drawn0.refl _ | apply Drawn0.step)⟩
end Go.Proofs.Ythpahlkhiknofaa.G
namespace Go.Proofs.Ythpahlkhiknofaa.G
open Go Go.RowKit Go.Proofs.YthpahlkhiknofaaW.PrintWords
def bits_Len.f (a0:Int):Option Int:=if 0 ≤ a0 ∧ a0 ≤ 18446744073709551615 then some (Lib.bitLen a0.toNat:Int) else none
theorem bits_Len.calls (a0:Int) (r:Int) (w:World) (h:bits_Len.f a0 = some r):Calls Try.prog 94 #[.int .u64 a0] w fun e w'=>e = .returned (.int .i64 r) ∧ Below w.heap.size w w':=by
 unfold bits_Len.f at h
 by_cases hb:0 ≤ a0 ∧ a0 ≤ 18446744073709551615
 case neg =>
  rw [if_neg hb] at h;cases h
 rw [if_pos hb] at h
 obtain rfl:=Option.some.inj h
 refine (Try.bits_Len a0 w hb.1 hb.2).mono fun e w' he=>?_
 obtain ⟨rfl,rfl⟩:=he
 exact ⟨rfl,Below.refl _ _⟩
end Go.Proofs.Ythpahlkhiknofaa.G
namespace Go.Proofs.Ythpahlkhiknofaa.G
open Go.RowKit Go.Proofs.YthpahlkhiknofaaW.PrintWords Go.Proofs.YthpahlkhiknofaaW.PrintLast Go.Proofs.YthpahlkhiknofaaW.PrintMore
set_option maxHeartbeats 8000000
set_option maxRecDepth 100000
attribute [local go_sem] max2_int min2_int max_two min_two max_three min_three max_four min_four   -- for this text's walks alone
def card_newFunction_1.f (a0:Int):Option (Bool):=if a0 = 48 then (some false) else (if a0 = 49 then (some false) else (some (a0 != 45)))
theorem card_newFunction_1.calls (a0:Int) (r:Bool) (w:World) (h:card_newFunction_1.f a0 = some r) :
  Calls Try.prog 96 #[.int .i32 a0] w fun e w'=>e = .returned (.bool r) ∧ Drawn0 w w':=by
 have H:(if a0 = 48 then (some false) else (if a0 = 49 then (some false) else (some (a0 != 45)))) = some r:=h
 clear h
 by_cases c2:a0 = 48
 ·rw [if_pos c2] at H
  have c2b0:(a0 == 48) = true:=beq_iff_eq.mpr c2
  have c2b1:(a0 != 48) = false:=bne_eq_false_iff_eq.mpr c2
  clear c2
  obtain rfl:=Option.some.inj H
  go_enter Try.func96,Try.ntmps96
  go_wp2
  go_ret
  exact ⟨by first | rfl | (simp;done) | (simp [*];done),by repeat (first | exact Drawn0.refl _ | apply Drawn0.step)⟩
 rw [if_neg c2] at H
 have c2b0:(a0 == 48) = false:=beq_eq_false_iff_ne.mpr c2
 have c2b1:(a0 != 48) = true:=bne_iff_ne.mpr c2
 by_cases c3:a0 = 49
 case neg =>
  rw [if_neg c3] at H
  have c3b0:(a0 == 49) = false:=beq_eq_false_iff_ne.mpr c3
  have c3b1:(a0 != 49) = true:=bne_iff_ne.mpr c3
  obtain rfl:=Option.some.inj H
  go_enter Try.func96,Try.ntmps96
  go_wp2
  go_ret
  exact ⟨by first | rfl | (simp;done) | (simp [*];done),by repeat (first | exact Drawn0.refl _ | apply Drawn0.step)⟩
 rw [if_pos c3] at H
 have c3b0:(a0 == 49) = true:=beq_iff_eq.mpr c3
 have c3b1:(a0 != 49) = false:=bne_eq_false_iff_eq.mpr c3
 clear c3
 obtain rfl:=Option.some.inj H
 go_enter Try.func96,Try.ntmps96
 go_wp2
 go_ret
 exact ⟨by first | rfl | (simp;done) | (simp [*];done),by repeat (first | exact Drawn0.refl _ | apply Drawn0.step)⟩
def card_newFunction_1.Pure:Prop:=∀ (a0:Int),(Lit.int .i32 a0).wf = true → card_newFunction_1.f a0 = some true
theorem card_newFunction_1.walk (P:card_newFunction_1.Pure) (a0:Int) (w:World) (w0:(Lit.int .i32 a0).wf = true) :
  Calls Try.prog 96 #[.int .i32 a0] w fun e w'=>e = .returned (.bool true) ∧ Below w.heap.size w w':=by
 have h:=P a0 w0
 refine (card_newFunction_1.calls a0 true w h).mono ?_
 rintro e w' ⟨rfl,hd⟩
 exact ⟨rfl,hd.below⟩
end Go.Proofs.Ythpahlkhiknofaa.G
namespace Go.Proofs.Ythpahlkhiknofaa.P
open Go Go.RowKit Go.Proofs.YthpahlkhiknofaaW.PrintWords
def badN (x:Nat):Bool:=!(decide (x = 48) || decide (x = 49) || decide (x = 45))
theorem get_bt {s:ByteArray} {i:Nat} (h:i < s.size):(s.get! i).toNat = (bt s (i:Int)).toNat:=by
 rw [bt_get h,Int.toNat_natCast]
 congr 1
 show s.data[i]! = s.data[i]
 rw [getElem!_pos]
theorem decode_low {s:ByteArray} {i:Nat} (h:(s.get! i).toNat < 128):Utf8.decode s i = ((s.get! i).toNat,1):=by
 unfold Utf8.decode
 simp only [Nat.add_zero]
 rw [if_pos h]
theorem decode_high {s:ByteArray} {i:Nat} (h:¬ (s.get! i).toNat < 128):128 ≤ (Utf8.decode s i).1:=by
 unfold Utf8.decode
 simp only [Nat.add_zero]
 rw [if_neg h]
 have e:128 ≤ Utf8.runeError:=by decide
 split
 ·split
  ·assumption
  exact e
 split
 ·split
  ·rename_i h2
   rw [Bool.and_eq_true,decide_eq_true_eq] at h2
   show 128 ≤ _
   have:=h2.1
   simp only at this ⊢
   omega
  exact e
 split
 ·split
  ·rename_i h2
   rw [Bool.and_eq_true,decide_eq_true_eq] at h2
   have:=h2.1
   simp only at this ⊢
   omega
  exact e
 exact e
theorem idx_bad (s:ByteArray):∀ f pos,s.size - pos ≤ f → decide (0 ≤ Lib.idxFuncFrom badN true s f pos) = !allF (isC s) (s.size - pos) pos
 | 0,pos,h=>by
  have e:s.size - pos = 0:=by omega
  rw [e];rfl
 | f + 1,pos,h=>by
  rw [Lib.idxFuncFrom]
  by_cases hp:pos < s.size
  case neg =>
   rw [if_neg hp]
   have e:s.size - pos = 0:=by omega
   rw [e];rfl
  rw [if_pos hp]
  obtain ⟨d,hd⟩:∃ d,s.size - pos = d + 1:=⟨s.size - pos - 1,by omega⟩
  have hd2:s.size - (pos + 1) = d:=by omega
  rw [hd,allF]
  have hg:=get_bt hp
  have hr:=bt_range s (pos:Int)
  by_cases hl:(s.get! pos).toNat < 128
  case neg =>
   have h2:=decode_high hl
   have hb:badN (Utf8.decode s pos).1 = true:=by
    unfold badN
    rw [decide_eq_false (by omega),decide_eq_false (by omega),decide_eq_false (by omega)];rfl
   rw [hb,if_pos rfl]
   have hc':isC s pos = false:=by
    unfold isC
    exact decide_eq_false (by omega)
   rw [hc',Bool.false_and]
   exact decide_eq_true (by omega)
  rw [decode_low hl]
  have hb:badN (s.get! pos).toNat = !isC s pos:=by
   unfold badN isC
   rw [hg]
   congr 1
   rw [Bool.eq_iff_iff]
   simp only [Bool.or_eq_true,decide_eq_true_eq]
   omega
  simp only [hb]
  by_cases hc:isC s pos = true
  ·rw [hc,if_neg (by decide),Bool.true_and,idx_bad s f (pos + 1) (by omega),hd2]
  have hc':isC s pos = false:=by simpa using hc
  rw [hc',if_pos (by decide),Bool.false_and]
  exact decide_eq_true (by omega)
end Go.Proofs.Ythpahlkhiknofaa.P
namespace Go.Proofs.Ythpahlkhiknofaa.G
open Go Go.RowKit Go.Proofs.YthpahlkhiknofaaW.PrintWords
def contains96.f (a0:ByteArray):Option Bool:=some (!P.okC a0)
theorem contains96.calls (a0:ByteArray) (r:Bool) (w:World) (h:contains96.f a0 = some r):Calls Try.prog 95 #[.string a0,.func (.func 96) #[] #[]] w fun e w'=>e = .returned (.bool r) ∧ Below w.heap.size w w':=by
 obtain rfl:=Option.some.inj h
 refine (Try.strings_ContainsFunc_grows 96 #[] (enters_of Try.func96 (by kernel_rfl) rfl) P.badN a0 w (fun W x _ _=>?_)).mono fun e w' he=>?_
 ·refine (card_newFunction_1.calls (x:Int) (P.badN x) W ?_).mono fun e w' he=>⟨he.1,he.2.below⟩
  unfold card_newFunction_1.f P.badN
  by_cases h1:x = 48
  ·subst h1;rfl
  by_cases h2:x = 49
  ·subst h2;rfl
  rw [if_neg (by omega),if_neg (by omega),decide_eq_false h1,decide_eq_false h2]
  congr 1
  by_cases h3:x = 45
  ·subst h3;rfl
  rw [decide_eq_false h3]
  have:(x:Int) ≠ 45:=by omega
  simpa using this
 obtain ⟨rfl,hb⟩:=he
 refine ⟨?_,hb⟩
 have:=P.idx_bad a0 a0.size 0 (by omega)
 unfold Lib.idxFunc
 rw [this];rfl
end Go.Proofs.Ythpahlkhiknofaa.G
namespace Go.Proofs.Ythpahlkhiknofaa.G
open Go.RowKit Go.Proofs.YthpahlkhiknofaaW.PrintWords Go.Proofs.YthpahlkhiknofaaW.PrintLast Go.Proofs.YthpahlkhiknofaaW.PrintMore
set_option maxHeartbeats 8000000
set_option maxRecDepth 100000
attribute [local go_sem] max2_int min2_int max_two min_two max_three min_three max_four min_four   -- for this text's walks alone
def card_newFunction.f (a0:ByteArray):Option (Int × ByteArray × Bool):=(bits_Len.f (IntKind.u64.wrap ((a0.size:Int)))).bind fun t110=>((card_within.f (wrap64 (t110 - 1)) 1 5).bind fun t111=>(if t111 = true then (if 0 ≤ (wrap64 (t110 - 1)) then (if (a0.size:Int) = (shl .i64 1 (wrap64 (t110 - 1))) then ((contains96.f a0).bind fun t112=>(some (wrap64 (t110 - 1),a0,!t112))) else (some (wrap64 (t110 - 1),a0,false))) else (none)) else (some (wrap64 (t110 - 1),a0,false))))
theorem card_newFunction.calls (a0:ByteArray) (r1:Int) (r2:ByteArray) (r3:Bool) (w:World) (h:card_newFunction.f a0 = some (r1,r2,r3)) :
  Calls Try.prog 65 #[.string a0] w fun e w'=>e = .returned (.tuple #[.agg #[.int .i64 r1,.string r2],.bool r3]) ∧ Below w.heap.size w w':=by
 have hu81:=Try.underlying81
 have HB:=Aside0.mk (Below.refl w.heap.size w)
 have H:((bits_Len.f (IntKind.u64.wrap ((a0.size:Int)))).bind fun t110=>((card_within.f (wrap64 (t110 - 1)) 1 5).bind fun t111=>(if t111 = true then (if 0 ≤ (wrap64 (t110 - 1)) then (if (a0.size:Int) = (shl .i64 1 (wrap64 (t110 - 1))) then ((contains96.f a0).bind fun t112=>(some (wrap64 (t110 - 1),a0,!t112))) else (some (wrap64 (t110 - 1),a0,false))) else (none)) else (some (wrap64 (t110 - 1),a0,false))))) = some (r1,r2,r3):=h
 clear h
 replace H:=Option.bind_eq_some_iff.mp H
 obtain ⟨t110,A20,H⟩:=H
 replace H:((card_within.f (wrap64 (t110 - 1)) 1 5).bind fun t111=>(if t111 = true then (if 0 ≤ (wrap64 (t110 - 1)) then (if (a0.size:Int) = (shl .i64 1 (wrap64 (t110 - 1))) then ((contains96.f a0).bind fun t112=>(some (wrap64 (t110 - 1),a0,!t112))) else (some (wrap64 (t110 - 1),a0,false))) else (none)) else (some (wrap64 (t110 - 1),a0,false)))) = some (r1,r2,r3):=H
 have A2:=Aside0.mk A20
 clear A20
 replace H:=Option.bind_eq_some_iff.mp H
 obtain ⟨t111,A30,H⟩:=H
 replace H:(if t111 = true then (if 0 ≤ (wrap64 (t110 - 1)) then (if (a0.size:Int) = (shl .i64 1 (wrap64 (t110 - 1))) then ((contains96.f a0).bind fun t112=>(some (wrap64 (t110 - 1),a0,!t112))) else (some (wrap64 (t110 - 1),a0,false))) else (none)) else (some (wrap64 (t110 - 1),a0,false))) = some (r1,r2,r3):=H
 have A3:=Aside0.mk A30
 clear A30
 by_cases c4:t111 = true
 case neg =>
  replace c4:=Bool.eq_false_iff.mpr c4
  subst c4
  have H1:(some (wrap64 (t110 - 1),a0,false)) = some (r1,r2,r3):=by rw [if_neg (show ¬ (false = true) by decide)] at H;exact H
  clear H
  have H:=H1
  clear H1
  simp only [Option.some.injEq,Prod.mk.injEq] at H
  obtain ⟨rfl,rfl,rfl⟩:=H
  go_enter Try.func65,Try.ntmps65
  go_wp2_with (first | ((with_reducible refine gate_dst (N:=2) rfl ?_);(try (refine gate_guard (by rfl) ?_;dsimp only));refine box_event ?hg (N:=2) ?hd (cs:=#[.int .i64 0,.string (⟨#[]⟩:ByteArray)]) (t:=81) ?hr ?_;(case hd=>rfl);(case hg=>rfl);(case hr=>first | (go_simp;done) | (go_simp;rfl));intro gb109 hg w17 hbox hb;have n0_:=Aside0.mk (below_step (by repeat (first | (with_reducible first | exact HB.out | apply below_alloc | apply pw_below_drewN | apply below_drew1) | exact HB.out)) hb);have n1_:=Aside0.mk (hbox);have n2_:=Aside0.mk ((by rw [hg];exact (below_size (by repeat (first | (with_reducible first | exact HB.out | apply below_alloc | apply pw_below_drewN | apply below_drew1) | exact HB.out))):w.heap.size ≤ gb109));have n3_:=Aside0.mk ((by rw [hg];exact (below_size (by repeat (first | (with_reducible first | exact HB.out | apply below_alloc | apply pw_below_drewN | apply below_drew1) | exact HB.out))):w.heap.size ≤ gb109));clear HB;have HB:=n0_;have BK109:=n1_;have GW109:=n2_;have GE109:=n3_;clear n0_ n1_ n2_ n3_;clear hb hbox hg) | ((with_reducible refine gate_callee (f:=94) rfl ?_);refine goesL_ (some 9) rfl rfl Try.func94 (by kernel_rfl) rfl #[.int .u64 (IntKind.u64.wrap ((a0.size:Int)))] rfl (by (try simp only [List.map_toArray,List.map_cons,List.map_nil]);first | done | rfl | (simp only [List.length_drop,List.length_take];rfl)) ?_;(with_reducible refine (bits_Len.calls (IntKind.u64.wrap ((a0.size:Int))) t110 _ A2.out).mono ?_);rintro e w18 ⟨rfl,hb⟩;refine ⟨_,rfl,?_⟩;have n0_:=Aside0.mk (blk_below (g:=gb109) (o:=.cells #[.int .i64 0,.string (⟨#[]⟩:ByteArray)] 81 (0,0)) (by (with_reducible repeat (first | refine blk_drewN ?_ _ | refine blk_drew ?_ | refine blk_alloc ?_ _));exact BK109.out) hb);have n1_:=Aside0.mk (below_step (by repeat (first | (with_reducible first | exact HB.out | apply below_alloc | apply pw_below_drewN | apply below_drew1 | refine below_set ?_ GE109.out) | exact HB.out)) hb);clear BK109;clear HB;have BK109:=n0_;have HB:=n1_;clear n0_ n1_;(try clear hb)) | ((with_reducible refine gate_callee (f:=61) rfl ?_);refine goesL_ (some 12) rfl rfl Try.func61 (by kernel_rfl) rfl #[.int .i64 (wrap64 (t110 - 1)),.int .i64 1,.int .i64 5] rfl (by (try simp only [List.map_toArray,List.map_cons,List.map_nil]);first | done | rfl | (simp only [List.length_drop,List.length_take];rfl)) ?_;(with_reducible refine (card_within.calls (wrap64 (t110 - 1)) 1 5 false _ A3.out).mono ?_);rintro e w' ⟨rfl,⟨nd,rfl⟩⟩;refine ⟨_,rfl,?_⟩;(try (rw [drewN_self w18];generalize hq_:World.drewN w18 _ = w18;have n0_:Aside0 (w18.heap[gb109]? = some (.cells #[.int .i64 0,.string (⟨#[]⟩:ByteArray)] 81 (0,0))):=⟨by rw [← hq_];exact (by (with_reducible repeat (first | refine blk_drewN ?_ _ | refine blk_drew ?_ | refine blk_alloc ?_ _));exact BK109.out)⟩;have n1_:Aside0 (Below w.heap.size w w18):=⟨by rw [← hq_];exact (by repeat (first | (with_reducible first | exact HB.out | apply below_alloc | apply pw_below_drewN | apply below_drew1 | refine below_set ?_ GE109.out) | exact HB.out))⟩;clear BK109 HB hq_;have BK109:=n0_;have HB:=n1_;clear n0_ n1_));have hcz19_0:w18.cell? ⟨gb109,0,none⟩ = some (.int .i64 0):=(blk_cell BK109.out 0).trans rfl;have hcz19_1:w18.cell? ⟨gb109,1,none⟩ = some (.string (⟨#[]⟩:ByteArray)):=(blk_cell BK109.out 1).trans rfl;have hfz19_0:=blk_frozen BK109.out 0;have hfz19_1:=blk_frozen BK109.out 1))
  refine bodyPost_ret (results_ct rfl _ _ gb109 81 #[.int .i64 (wrap64 (t110 - 1)),.string a0] (0,0) _ rfl (by (with_reducible repeat (first | refine blk_drewN ?_ _ | refine blk_drew ?_ | refine blk_alloc ?_ _));refine blk_put (cs:=#[.int .i64 (wrap64 (t110 - 1)),.string (⟨#[]⟩:ByteArray)]) ?_ 1 _ rfl;(with_reducible repeat (first | refine blk_drewN ?_ _ | refine blk_drew ?_ | refine blk_alloc ?_ _));refine blk_put (cs:=#[.int .i64 0,.string (⟨#[]⟩:ByteArray)]) ?_ 0 _ rfl;(with_reducible repeat (first | refine blk_drewN ?_ _ | refine blk_drew ?_ | refine blk_alloc ?_ _));exact BK109.out) Try.underlying81 rfl (by kernel_rfl)) rfl ?_
  exact ⟨by first | rfl | (simp [errW_none,errW_some] <;> rfl) | (simp [*,errW_none,errW_some] <;> rfl),by repeat (first | (with_reducible first | exact HB.out | apply below_alloc | apply pw_below_drewN | apply below_drew1 | refine below_set ?_ GE109.out) | exact HB.out)⟩
 subst c4
 have H1:(if 0 ≤ (wrap64 (t110 - 1)) then (if (a0.size:Int) = (shl .i64 1 (wrap64 (t110 - 1))) then ((contains96.f a0).bind fun t112=>(some (wrap64 (t110 - 1),a0,!t112))) else (some (wrap64 (t110 - 1),a0,false))) else (none)) = some (r1,r2,r3):=by rw [if_pos rfl] at H;exact H
 clear H
 have H:=H1
 clear H1
 obtain ⟨ji5,hji5⟩:∃ j_:Int,(wrap64 (t110 - 1)) = j_:=⟨_,rfl⟩
 replace H:(if 0 ≤ (ji5) then (if (a0.size:Int) = (shl .i64 1 (ji5)) then ((contains96.f a0).bind fun t112=>(some (ji5,a0,!t112))) else (some (ji5,a0,false))) else (none)) = some (r1,r2,r3):=by first | (rw [hji5] at H;exact H) | (simp only [hji5] at H ⊢;exact H)
 (try rw [hji5] at A2)
 (try rw [hji5] at A3)
 have hji5w:(IntKind.i64.wrap (t110 - 1)) = ji5:=(i64_w _).trans hji5
 by_cases c6:0 ≤ (ji5)
 case neg =>
  rw [if_neg c6] at H
  exact absurd H (by simp)
 rw [if_pos c6] at H
 have c6b0:=eq_true c6
 have c6b1:decide (0 ≤ (ji5)) = true:=decide_eq_true c6
 clear c6
 obtain ⟨ji7,hji7⟩:∃ j_:Int,(shl .i64 1 (ji5)) = j_:=⟨_,rfl⟩
 replace H:(if (a0.size:Int) = (ji7) then ((contains96.f a0).bind fun t112=>(some (ji5,a0,!t112))) else (some (ji5,a0,false))) = some (r1,r2,r3):=by first | (rw [hji7] at H;exact H) | (simp only [hji7] at H ⊢;exact H)
 (try rw [hji7] at A2)
 (try rw [hji7] at A3)
 have hji7_:(IntKind.i64.wrap (1 * 2 ^ min (ji5).toNat 64)) = ji7:=hji7
 have hji7z:(ji5) ≤ 64 → (IntKind.i64.wrap (1 * 2 ^ (ji5).toNat)) = ji7:=shl_small hji7
 have hji7u:(IntKind.i64.wrap (2 ^ min (ji5).toNat 64)) = ji7:=by have h_:=hji7_;rw [Int.one_mul] at h_;exact h_
 have hji7v:(ji5) ≤ 64 → (IntKind.i64.wrap (2 ^ (ji5).toNat)) = ji7:=fun hle_=>by have h_:=hji7z hle_;rw [Int.one_mul] at h_;exact h_
 have hji7y:(wrap64 (1 * 2 ^ min (ji5).toNat 64)) = ji7:=(i64_w _).symm.trans hji7_
 have hji7x:(ji5) ≤ 64 → (wrap64 (1 * 2 ^ (ji5).toNat)) = ji7:=fun h_=>(i64_w _).symm.trans (hji7z h_)
 by_cases c8:(a0.size:Int) = (ji7)
 case neg =>
  rw [if_neg c8] at H
  have c8b0:((a0.size:Int) == (ji7)) = false:=beq_eq_false_iff_ne.mpr c8
  have c8b1:((a0.size:Int) != (ji7)) = true:=bne_iff_ne.mpr c8
  simp only [Option.some.injEq,Prod.mk.injEq] at H
  obtain ⟨rfl,rfl,rfl⟩:=H
  go_enter Try.func65,Try.ntmps65
  go_wp2_with (first | ((with_reducible refine gate_dst (N:=2) rfl ?_);(try (refine gate_guard (by rfl) ?_;dsimp only));refine box_event ?hg (N:=2) ?hd (cs:=#[.int .i64 0,.string (⟨#[]⟩:ByteArray)]) (t:=81) ?hr ?_;(case hd=>rfl);(case hg=>rfl);(case hr=>first | (go_simp;done) | (go_simp;rfl));intro gb109 hg w14 hbox hb;have n0_:=Aside0.mk (below_step (by repeat (first | (with_reducible first | exact HB.out | apply below_alloc | apply pw_below_drewN | apply below_drew1) | exact HB.out)) hb);have n1_:=Aside0.mk (hbox);have n2_:=Aside0.mk ((by rw [hg];exact (below_size (by repeat (first | (with_reducible first | exact HB.out | apply below_alloc | apply pw_below_drewN | apply below_drew1) | exact HB.out))):w.heap.size ≤ gb109));have n3_:=Aside0.mk ((by rw [hg];exact (below_size (by repeat (first | (with_reducible first | exact HB.out | apply below_alloc | apply pw_below_drewN | apply below_drew1) | exact HB.out))):w.heap.size ≤ gb109));clear HB;have HB:=n0_;have BK109:=n1_;have GW109:=n2_;have GE109:=n3_;clear n0_ n1_ n2_ n3_;clear hb hbox hg) | ((with_reducible refine gate_callee (f:=94) rfl ?_);refine goesL_ (some 9) rfl rfl Try.func94 (by kernel_rfl) rfl #[.int .u64 (IntKind.u64.wrap ((a0.size:Int)))] rfl (by (try simp only [List.map_toArray,List.map_cons,List.map_nil]);first | done | rfl | (simp only [List.length_drop,List.length_take];rfl)) ?_;(with_reducible refine (bits_Len.calls (IntKind.u64.wrap ((a0.size:Int))) t110 _ A2.out).mono ?_);rintro e w15 ⟨rfl,hb⟩;refine ⟨_,rfl,?_⟩;have n0_:=Aside0.mk (blk_below (g:=gb109) (o:=.cells #[.int .i64 0,.string (⟨#[]⟩:ByteArray)] 81 (0,0)) (by (with_reducible repeat (first | refine blk_drewN ?_ _ | refine blk_drew ?_ | refine blk_alloc ?_ _));exact BK109.out) hb);have n1_:=Aside0.mk (below_step (by repeat (first | (with_reducible first | exact HB.out | apply below_alloc | apply pw_below_drewN | apply below_drew1 | refine below_set ?_ GE109.out) | exact HB.out)) hb);clear BK109;clear HB;have BK109:=n0_;have HB:=n1_;clear n0_ n1_;(try clear hb)) | ((with_reducible refine gate_callee (f:=61) rfl ?_);refine goesL_ (some 12) rfl rfl Try.func61 (by kernel_rfl) rfl #[.int .i64 ji5,.int .i64 1,.int .i64 5] rfl (by (try simp only [List.map_toArray,List.map_cons,List.map_nil]);first | done | (simp only [hji5];rfl) | rfl | (simp only [List.length_drop,List.length_take];rfl)) ?_;(with_reducible refine (card_within.calls ji5 1 5 true _ A3.out).mono ?_);rintro e w' ⟨rfl,⟨nd,rfl⟩⟩;refine ⟨_,rfl,?_⟩;(try (rw [drewN_self w15];generalize hq_:World.drewN w15 _ = w15;have n0_:Aside0 (w15.heap[gb109]? = some (.cells #[.int .i64 0,.string (⟨#[]⟩:ByteArray)] 81 (0,0))):=⟨by rw [← hq_];exact (by (with_reducible repeat (first | refine blk_drewN ?_ _ | refine blk_drew ?_ | refine blk_alloc ?_ _));exact BK109.out)⟩;have n1_:Aside0 (Below w.heap.size w w15):=⟨by rw [← hq_];exact (by repeat (first | (with_reducible first | exact HB.out | apply below_alloc | apply pw_below_drewN | apply below_drew1 | refine below_set ?_ GE109.out) | exact HB.out))⟩;clear BK109 HB hq_;have BK109:=n0_;have HB:=n1_;clear n0_ n1_));have hcz16_0:w15.cell? ⟨gb109,0,none⟩ = some (.int .i64 0):=(blk_cell BK109.out 0).trans rfl;have hcz16_1:w15.cell? ⟨gb109,1,none⟩ = some (.string (⟨#[]⟩:ByteArray)):=(blk_cell BK109.out 1).trans rfl;have hfz16_0:=blk_frozen BK109.out 0;have hfz16_1:=blk_frozen BK109.out 1))
  refine bodyPost_ret (results_ct rfl _ _ gb109 81 #[.int .i64 ji5,.string a0] (0,0) _ rfl (by (with_reducible repeat (first | refine blk_drewN ?_ _ | refine blk_drew ?_ | refine blk_alloc ?_ _));refine blk_put (cs:=#[.int .i64 ji5,.string (⟨#[]⟩:ByteArray)]) ?_ 1 _ rfl;(with_reducible repeat (first | refine blk_drewN ?_ _ | refine blk_drew ?_ | refine blk_alloc ?_ _));refine blk_put (cs:=#[.int .i64 0,.string (⟨#[]⟩:ByteArray)]) ?_ 0 _ rfl;(with_reducible repeat (first | refine blk_drewN ?_ _ | refine blk_drew ?_ | refine blk_alloc ?_ _));exact BK109.out) Try.underlying81 rfl (by kernel_rfl)) rfl ?_
  exact ⟨by first | rfl | (simp [errW_none,errW_some] <;> rfl) | (simp only [← hji5,← hji7];first | rfl | (simp [errW_none,errW_some] <;> rfl)) | (simp [*,errW_none,errW_some] <;> rfl),by repeat (first | (with_reducible first | exact HB.out | apply below_alloc | apply pw_below_drewN | apply below_drew1 | refine below_set ?_ GE109.out) | exact HB.out)⟩
 rw [if_pos c8] at H
 have c8b0:((a0.size:Int) == (ji7)) = true:=beq_iff_eq.mpr c8
 have c8b1:((a0.size:Int) != (ji7)) = false:=bne_eq_false_iff_eq.mpr c8
 clear c8
 replace H:=Option.bind_eq_some_iff.mp H
 obtain ⟨t112,A90,H⟩:=H
 replace H:(some (ji5,a0,!t112)) = some (r1,r2,r3):=H
 have A9:=Aside0.mk A90
 clear A90
 simp only [Option.some.injEq,Prod.mk.injEq] at H
 obtain ⟨rfl,rfl,rfl⟩:=H
 go_enter Try.func65,Try.ntmps65
 go_wp2_with (first | ((with_reducible refine gate_dst (N:=2) rfl ?_);(try (refine gate_guard (by rfl) ?_;dsimp only));refine box_event ?hg (N:=2) ?hd (cs:=#[.int .i64 0,.string (⟨#[]⟩:ByteArray)]) (t:=81) ?hr ?_;(case hd=>rfl);(case hg=>rfl);(case hr=>first | (go_simp;done) | (go_simp;rfl));intro gb109 hg w10 hbox hb;have n0_:=Aside0.mk (below_step (by repeat (first | (with_reducible first | exact HB.out | apply below_alloc | apply pw_below_drewN | apply below_drew1) | exact HB.out)) hb);have n1_:=Aside0.mk (hbox);have n2_:=Aside0.mk ((by rw [hg];exact (below_size (by repeat (first | (with_reducible first | exact HB.out | apply below_alloc | apply pw_below_drewN | apply below_drew1) | exact HB.out))):w.heap.size ≤ gb109));have n3_:=Aside0.mk ((by rw [hg];exact (below_size (by repeat (first | (with_reducible first | exact HB.out | apply below_alloc | apply pw_below_drewN | apply below_drew1) | exact HB.out))):w.heap.size ≤ gb109));clear HB;have HB:=n0_;have BK109:=n1_;have GW109:=n2_;have GE109:=n3_;clear n0_ n1_ n2_ n3_;clear hb hbox hg) | ((with_reducible refine gate_callee (f:=94) rfl ?_);refine goesL_ (some 9) rfl rfl Try.func94 (by kernel_rfl) rfl #[.int .u64 (IntKind.u64.wrap ((a0.size:Int)))] rfl (by (try simp only [List.map_toArray,List.map_cons,List.map_nil]);first | done | rfl | (simp only [List.length_drop,List.length_take];rfl)) ?_;(with_reducible refine (bits_Len.calls (IntKind.u64.wrap ((a0.size:Int))) t110 _ A2.out).mono ?_);rintro e w11 ⟨rfl,hb⟩;refine ⟨_,rfl,?_⟩;have n0_:=Aside0.mk (blk_below (g:=gb109) (o:=.cells #[.int .i64 0,.string (⟨#[]⟩:ByteArray)] 81 (0,0)) (by (with_reducible repeat (first | refine blk_drewN ?_ _ | refine blk_drew ?_ | refine blk_alloc ?_ _));exact BK109.out) hb);have n1_:=Aside0.mk (below_step (by repeat (first | (with_reducible first | exact HB.out | apply below_alloc | apply pw_below_drewN | apply below_drew1 | refine below_set ?_ GE109.out) | exact HB.out)) hb);clear BK109;clear HB;have BK109:=n0_;have HB:=n1_;clear n0_ n1_;(try clear hb)) | ((with_reducible refine gate_callee (f:=61) rfl ?_);refine goesL_ (some 12) rfl rfl Try.func61 (by kernel_rfl) rfl #[.int .i64 ji5,.int .i64 1,.int .i64 5] rfl (by (try simp only [List.map_toArray,List.map_cons,List.map_nil]);first | done | (simp only [hji5];rfl) | rfl | (simp only [List.length_drop,List.length_take];rfl)) ?_;(with_reducible refine (card_within.calls ji5 1 5 true _ A3.out).mono ?_);rintro e w' ⟨rfl,⟨nd,rfl⟩⟩;refine ⟨_,rfl,?_⟩;(try (rw [drewN_self w11];generalize hq_:World.drewN w11 _ = w11;have n0_:Aside0 (w11.heap[gb109]? = some (.cells #[.int .i64 0,.string (⟨#[]⟩:ByteArray)] 81 (0,0))):=⟨by rw [← hq_];exact (by (with_reducible repeat (first | refine blk_drewN ?_ _ | refine blk_drew ?_ | refine blk_alloc ?_ _));exact BK109.out)⟩;have n1_:Aside0 (Below w.heap.size w w11):=⟨by rw [← hq_];exact (by repeat (first | (with_reducible first | exact HB.out | apply below_alloc | apply pw_below_drewN | apply below_drew1 | refine below_set ?_ GE109.out) | exact HB.out))⟩;clear BK109 HB hq_;have BK109:=n0_;have HB:=n1_;clear n0_ n1_))) | (go_at_call 95;(with_reducible refine (contains96.calls a0 t112 _ A9.out).mono ?_);rintro e w12 ⟨rfl,hb⟩;have n0_:=Aside0.mk (blk_below (g:=gb109) (o:=.cells #[.int .i64 0,.string (⟨#[]⟩:ByteArray)] 81 (0,0)) (by (with_reducible repeat (first | refine blk_drewN ?_ _ | refine blk_drew ?_ | refine blk_alloc ?_ _));exact BK109.out) hb);have n1_:=Aside0.mk (below_step (by repeat (first | (with_reducible first | exact HB.out | apply below_alloc | apply pw_below_drewN | apply below_drew1 | refine below_set ?_ GE109.out) | exact HB.out)) hb);clear BK109;clear HB;have BK109:=n0_;have HB:=n1_;clear n0_ n1_;(try clear hb);have hcz13_0:w12.cell? ⟨gb109,0,none⟩ = some (.int .i64 0):=(blk_cell BK109.out 0).trans rfl;have hcz13_1:w12.cell? ⟨gb109,1,none⟩ = some (.string (⟨#[]⟩:ByteArray)):=(blk_cell BK109.out 1).trans rfl;have hfz13_0:=blk_frozen BK109.out 0;have hfz13_1:=blk_frozen BK109.out 1))
 refine bodyPost_ret (results_ct rfl _ _ gb109 81 #[.int .i64 ji5,.string a0] (0,0) _ rfl (by (with_reducible repeat (first | refine blk_drewN ?_ _ | refine blk_drew ?_ | refine blk_alloc ?_ _));refine blk_put (cs:=#[.int .i64 ji5,.string (⟨#[]⟩:ByteArray)]) ?_ 1 _ rfl;(with_reducible repeat (first | refine blk_drewN ?_ _ | refine blk_drew ?_ | refine blk_alloc ?_ _));refine blk_put (cs:=#[.int .i64 0,.string (⟨#[]⟩:ByteArray)]) ?_ 0 _ rfl;(with_reducible repeat (first | refine blk_drewN ?_ _ | refine blk_drew ?_ | refine blk_alloc ?_ _));exact BK109.out) Try.underlying81 rfl (by kernel_rfl)) rfl ?_
 exact ⟨by first | rfl | (simp [errW_none,errW_some] <;> rfl) | (simp only [← hji5,← hji7];first | rfl | (simp [errW_none,errW_some] <;> rfl)) | (simp [*,errW_none,errW_some] <;> rfl),by repeat (first | (with_reducible first | exact HB.out | apply below_alloc | apply pw_below_drewN | apply below_drew1 | refine below_set ?_ GE109.out) | exact HB.out)⟩
end Go.Proofs.Ythpahlkhiknofaa.G
set_option linter.unusedSectionVars false
namespace Go.Proofs.Ythpahlkhiknofaa.P
open Go Go.RowKit Go.Proofs.Ythpahlkhiknofaa.M Go.Proofs.Ythpahlkhiknofaa.G
open Go.Proofs.YthpahlkhiknofaaW.PrintWords Go.Proofs.YthpahlkhiknofaaW.PrintMore
def lg (s:Nat):Nat:=if s = 2 then 1 else if s = 4 then 2 else if s = 8 then 3 else if s = 16 then 4 else if s = 32 then 5 else 0
theorem lg_table:∀ s:Fin 41,(lg s.val = 0 → ¬ (2 ≤ Lib.bitLen s.val ∧ Lib.bitLen s.val ≤ 6 ∧ s.val = 2 ^ (Lib.bitLen s.val - 1))) ∧ (lg s.val ≠ 0 → Lib.bitLen s.val = lg s.val + 1 ∧ s.val = 2 ^ lg s.val ∧ lg s.val ≤ 5) ∧ Lib.bitLen s.val ≤ 6:=by decide +kernel
/-- The number of variables of a function;0: it is none. -/
def fnN (c:ByteArray):Nat:=if okC c = true then lg c.size else 0
theorem fnN_pos {c:ByteArray} (hc:c.size ≤ 40) (h:fnN c ≠ 0):okC c = true ∧ c.size = 2 ^ fnN c ∧ 1 ≤ fnN c ∧ fnN c ≤ 5 ∧ c.size ≤ 32:=by
  unfold fnN at h ⊢
  by_cases ho:okC c = true
  · rw [if_pos ho] at h ⊢
    have:=(lg_table ⟨c.size,by omega⟩).2.1 h
    simp only at this
    have h2:2 ^ lg c.size ≤ 2 ^ 5:=Nat.pow_le_pow_right (by decide) this.2.2
    exact ⟨ho,this.2.1,by omega,this.2.2,by omega⟩
  · rw [if_neg ho] at h;exact absurd rfl h
section
variable {c:ByteArray} (hc:c.size ≤ 40)
include hc
theorem newF:∃ m:Int,(fnN c ≠ 0 → m = (fnN c:Int)) ∧ card_newFunction.f c = some (m,c,decide (fnN c ≠ 0)):=by
  have ht:=lg_table ⟨c.size,by omega⟩
  simp only at ht
  have hu:IntKind.u64.wrap (c.size:Int) = (c.size:Int):=wrap_u64_nat _ (by omega)
  have hb:bits_Len.f (c.size:Int) = some (Lib.bitLen c.size:Int):=by
    unfold bits_Len.f
    rw [if_pos (by omega),Int.toNat_natCast]
  have hw:wrap64 ((Lib.bitLen c.size:Int) - 1) = (Lib.bitLen c.size:Int) - 1:=wrap_id (by omega) (by omega)
  unfold card_newFunction.f
  rw [hu,hb,Option.bind_some,hw]
  unfold card_within.f
  by_cases hl:lg c.size = 0
  · have hn:fnN c = 0:=by unfold fnN;rw [hl];split <;> rfl
    have h1:=ht.1 hl
    refine ⟨(Lib.bitLen c.size:Int) - 1,fun h=>absurd hn h,?_⟩
    have hd:decide (fnN c ≠ 0) = false:=by rw [hn];rfl
    rw [hd]
    by_cases a1:(Lib.bitLen c.size:Int) - 1 ≥ 1
    · rw [if_pos a1,Option.bind_some]
      by_cases a2:(Lib.bitLen c.size:Int) - 1 ≤ 5
      · rw [if_pos (decide_eq_true a2),if_pos (by omega)]
        have e:(Lib.bitLen c.size:Int) - 1 = ((Lib.bitLen c.size - 1:Nat):Int):=by omega
        rw [e,shl_one (by omega),if_neg (fun h=>h1 ⟨by omega,by omega,by exact_mod_cast h⟩)]
      · rw [if_neg (by rw [decide_eq_false a2];decide)]
    · rw [if_neg a1,Option.bind_some,if_neg (by decide)]
  · obtain ⟨h1,h2,h3⟩:=ht.2.1 hl
    have e:(Lib.bitLen c.size:Int) - 1 = (lg c.size:Int):=by omega
    rw [e,if_pos (by omega),Option.bind_some,if_pos (decide_eq_true (by omega)),if_pos (by omega),shl_one (by omega),if_pos (by exact_mod_cast h2)]
    refine ⟨(lg c.size:Int),fun h=>?_,?_⟩
    · unfold fnN at h ⊢
      by_cases ho:okC c = true
      · rw [if_pos ho]
      · rw [if_neg ho] at h;exact absurd rfl h
    · unfold contains96.f
      rw [Option.bind_some,Bool.not_not]
      congr 3
      unfold fnN
      by_cases ho:okC c = true
      · rw [if_pos ho,ho,decide_eq_true hl]
      · have ho':okC c = false:=by simpa using ho
        rw [if_neg ho,ho'];rfl
end
end Go.Proofs.Ythpahlkhiknofaa.P
namespace Go.Proofs.Ythpahlkhiknofaa.G
open Go.RowKit Go.Proofs.YthpahlkhiknofaaW.PrintWords Go.Proofs.YthpahlkhiknofaaW.PrintLast Go.Proofs.YthpahlkhiknofaaW.PrintMore
attribute [local go_sem] max2_int min2_int max_two min_two max_three min_three max_four min_four   -- for this text's walks alone
set_option linter.unusedVariables false
set_option linter.unusedSimpArgs false
def numnahlaw01_list.f (l0:List Int):Option ((List Int)):=if 0 ≤ (mn (l0.length:Int) 1001) then (if (mn (l0.length:Int) 1001) ≤ (l0.length:Int) then ((some (l0.take ((mn (l0.length:Int) 1001):Int).toNat:List Int)).bind fun y101=>(if ([]:List Int).length + y101.length < 8796093022208 then (some (([]:List Int) ++ y101)) else (none))) else (none)) else (none)
set_option maxHeartbeats 8000000 in
set_option maxRecDepth 100000 in
theorem numnahlaw01_list.calls (A0:Option Addr) (c0:Nat) (l0:List Int) (r:List Int) (w:World) (hr0:Kd.C (Kd.int .i64) w A0 l0.length l0) (hc0:l0.length ≤ c0) (h:numnahlaw01_list.f l0 = some r) :
  Calls Try.prog 17 #[.slice A0 l0.length c0] w fun e w'=>∃ v0_:Value,e = .returned (v0_) ∧ Kd.R (Kd.int .i64) 3 w' w.heap.size (fun _=>True) v0_ r ∧ Below w.heap.size w w':=by
 have HR0:=Aside0.mk hr0
 have HC0:=Aside0.mk hc0
 clear hr0 hc0
 have HB:=Aside0.mk (Below.refl w.heap.size w)
 have H:(if 0 ≤ (mn (l0.length:Int) 1001) then (if (mn (l0.length:Int) 1001) ≤ (l0.length:Int) then ((some (l0.take ((mn (l0.length:Int) 1001):Int).toNat:List Int)).bind fun y101=>(if ([]:List Int).length + y101.length < 8796093022208 then (some (([]:List Int) ++ y101)) else (none))) else (none)) else (none)) = some r:=h
 clear h
 obtain ⟨ji2,hji2⟩:∃ j_:Int,(mn (l0.length:Int) 1001) = j_:=⟨_,rfl⟩
 replace H:(if 0 ≤ (ji2) then (if (ji2) ≤ (l0.length:Int) then ((some (l0.take ((ji2):Int).toNat:List Int)).bind fun y101=>(if ([]:List Int).length + y101.length < 8796093022208 then (some (([]:List Int) ++ y101)) else (none))) else (none)) else (none)) = some r:=by first | (rw [hji2] at H;exact H) | (simp only [hji2] at H ⊢;exact H)
 (try (have hji2h:ji2 ≤ 1001:=by (rw [← hji2];unfold mn;(repeat' split) <;> omega)))
 (try (have hji2g:ji2 ≤ 64:=by omega))
 (try (have hji2l:0 ≤ ji2:=by (rw [← hji2];unfold mn;(repeat' split) <;> omega)))
 (try (have hji2m:0 ≤ ji2:=by omega))
 have hji2_:(if 1001 < (l0.length:Int) then 1001 else (l0.length:Int)) = ji2:=hji2
 by_cases c3:0 ≤ (ji2)
 case neg =>
  rw [if_neg c3] at H
  exact absurd H (by simp)
 rw [if_pos c3] at H
 have c3b0:=eq_true c3
 have c3b1:decide (0 ≤ (ji2)) = true:=decide_eq_true c3
 clear c3
 by_cases c4:(ji2) ≤ (l0.length:Int)
 case neg =>
  rw [if_neg c4] at H
  exact absurd H (by simp)
 rw [if_pos c4] at H
 have c4b0:=eq_true c4
 have c4b1:decide ((ji2) ≤ (l0.length:Int)) = true:=decide_eq_true c4
 clear c4
 obtain ⟨y101,hy101⟩:∃ y_:List Int,y_ = (l0.take ((ji2):Int).toNat):=⟨_,rfl⟩
 replace H:(if ([]:List Int).length + y101.length < 8796093022208 then (some (([]:List Int) ++ y101)) else (none)) = some r:=by first | (rw [hy101];with_reducible exact H) | (have H2_:=(Option.bind_some _ _).symm.trans H;rw [hy101];with_reducible exact H2_) | (have H2_:=(Option.bind_some _ _).symm.trans H;with_reducible exact H2_) | with_reducible exact H | (rw [hy101];exact H) | exact H
 have Ny101:=Aside0.mk hy101
 clear hy101
 by_cases c5:([]:List Int).length + y101.length < 8796093022208
 case neg =>
  rw [if_neg c5] at H
  exact absurd H (by simp)
 rw [if_pos c5] at H
 have LMc5:=Aside0.mk c5
 clear c5
 obtain ⟨y105,hy105⟩:∃ y_:List Int,y_ = (([]:List Int) ++ y101):=⟨_,rfl⟩
 replace H:(some y105) = some r:=by first | (rw [hy105];with_reducible exact H) | (have H2_:=(Option.bind_some _ _).symm.trans H;rw [hy105];with_reducible exact H2_) | (have H2_:=(Option.bind_some _ _).symm.trans H;with_reducible exact H2_) | with_reducible exact H | (rw [hy105];exact H) | exact H
 have Ny105:=Aside0.mk hy105
 clear hy105
 obtain rfl:=Option.some.inj H
 have q6:((ji2):Int) ≤ ((l0.length:Int):Int):=of_decide_eq_true (by first | (with_reducible assumption) | assumption)
 obtain ⟨i06,hi06,_,hsz6,_⟩:=info_parts info3
 have hroom6:l0.length ≤ c0:=HC0.out
 have hC6:Kd.C (Kd.int .i64) _ A0 l0.length l0:=HR0.out
 have hcut6:=cut_to (P:=Try.prog) 22 3 .i64 Try.underlying22 hi06 A0 l0.length c0 (ji2) (of_decide_eq_true (by first | (with_reducible assumption) | assumption)) q6 hroom6
 have hr6:=Kd.C_take (m:=((ji2):Int).toNat) hC6 (by omega)
 have hy6:y101.length = ((ji2):Int).toNat:=(by rw [Ny101.out,List.length_take];omega)
 rw [← Ny101.out] at hr6
 rw [← hy6] at hcut6
 have HR104:=Aside0.mk hr6
 have HC104:=Aside0.mk (show y101.length ≤ c0 from by omega)
 clear hr6 hC6 hroom6 hi06 hsz6
 have KY6:=Aside0.mk hy6
 clear hy6
 replace q6:=eq_true q6
 go_enter Try.func17,Try.ntmps17
 go_wp2_with (first | ((with_reducible refine gate_builtin (b:=.append) (xs:=#[.tmp 4,.tmp 9]) rfl ?_);at_builtin;refine Kd.R_append_rows (Kd.int .i64) (w0:=w) w.heap.size rfl (.tmp 4) (.tmp 9) 22 3 (.int .i64 0) 8 rfl Try.underlying22 info3 rfl (by decide) (by omega) (.slice none 0 0) ([]:List Int) y101 _ _ _ (fun _=>True) (fun _=>False) rfl rfl ?aO ?aR (fun _ _ h=>h) (fun _ h=>h.elim) ?aF ?aB ?aS ?aL ?_;(case aR=>repeat (first | exact HR104.out | (with_reducible refine Kd.C_alloc ?_ _) | (with_reducible refine Kd.C_drewN ?_ _) | (with_reducible refine Kd.C_drew ?_)));(case aB=>exact (by repeat (first | (with_reducible first | exact HB.out | apply below_alloc | apply pw_below_drewN | apply below_drew1) | exact HB.out)));(case aF=>exact (fun _ _=>trivial));(case aO=>exact ((Kd.R_nil _ _ _ _ (fun _=>True))));(case aS=>exact (below_size (by repeat (first | (with_reducible first | exact HB.out | apply below_alloc | apply pw_below_drewN | apply below_drew1) | exact HB.out))));(case aL=>have:=LMc5.out;omega);intro v106 w7 ho hb hg hat;rw [← Ny105.out] at ho;have n0_:=Aside0.mk (hb);have n1_:=Aside0.mk (ho);clear HB;have HB:=n0_;have HO107:=n1_;clear n0_ n1_;clear ho hb hg hat))
 go_ret
 exact ⟨_,by first | rfl | (simp [errW_none,errW_some] <;> rfl) | (simp only [← hji2];first | rfl | (simp [errW_none,errW_some] <;> rfl)) | (simp [*,errW_none,errW_some] <;> rfl),by (with_reducible repeat (first | apply Kd.R_alloc | apply Kd.R_drewN | apply Kd.R_drew));exact HO107.out,by repeat (first | (with_reducible first | exact HB.out | apply below_alloc | apply pw_below_drewN | apply below_drew1) | exact HB.out)⟩
end Go.Proofs.Ythpahlkhiknofaa.G
set_option linter.unusedSectionVars false
namespace Go.Proofs.Ythpahlkhiknofaa.P
open Go Go.RowKit Go.Proofs.Ythpahlkhiknofaa.M Go.Proofs.Ythpahlkhiknofaa.G
open Go.Proofs.YthpahlkhiknofaaW.PrintWords Go.Proofs.YthpahlkhiknofaaW.PrintMore
theorem list_f (l:List Int):numnahlaw01_list.f l = some (l.take 1001):=by
 unfold numnahlaw01_list.f
 have e:mn (l.length:Int) 1001 = ((min l.length 1001:Nat):Int):=by unfold mn;split <;> omega
 rw [e,if_pos (by omega),if_pos (by omega),Int.toNat_natCast,Option.bind_some,if_pos (by rw [List.length_take,List.length_nil];omega),List.nil_append]
 congr 1
 by_cases h:l.length ≤ 1001
 ·rw [Nat.min_eq_left h,List.take_length,List.take_of_length_le h]
 ·rw [Nat.min_eq_right (by omega)]
structure Vs (n:Nat) (l:List Int):Prop where
 ge:∀ k (h:k < l.length),0 ≤ l[k]
 lt:∀ k (h:k < l.length),l[k] < (n:Int)
 ne:∀ j k (hj:j < k) (h:k < l.length),l[j]'(by omega) ≠ l[k]
def setN (l:List Int) (b:Nat → Bool):Nat → Nat
 | 0=>0
 | i + 1=>if b i = true then setN l b i ||| 2 ^ (rd l (i:Int)).toNat else setN l b i
section
variable {c:ByteArray} {n:Nat} (hn:1 ≤ n ∧ n ≤ 5) (hs:c.size = 2 ^ n) {o fl:List Int} (ho:Vs n o) (hol:o.length = n) (hf:Vs n fl) (hfl:fl.length ≤ 1001)
include hn hs ho hol hf hfl
def bitF (fl:List Int) (p i:Nat):Bool:=p.testBit i != decide ((i:Int) ∈ fl)
def outF (c:ByteArray) (o fl:List Int) (p:Nat):Int:=bt c ((setN o (bitF fl p) o.length:Nat):Int)
def part (c:ByteArray) (o fl:List Int) (i d:Nat):List Int:=(List.range i).map (outF c o fl) ++ List.replicate d 0
end
end Go.Proofs.Ythpahlkhiknofaa.P
namespace Go.Proofs.Ythpahlkhiknofaa.P
open Go Go.RowKit Go.Proofs.YthpahlkhiknofaaW.PrintWords
theorem data_get {s:ByteArray} {i:Nat} (h:i < s.size):s.data.toList[i]'(by rw [data_length];exact h) = s[i]:=by
 rw [Array.getElem_toList];rfl
def noH (s:ByteArray):Bool:=allF (fun i=>decide (bt s (i:Int) ≠ 45)) s.size 0
theorem indexByte_pos (c:UInt8):∀ (l:List UInt8),decide (0 ≤ Lib.indexByte l c) = l.any (· == c)
 | []=>rfl
 | b :: l=>by
  have ih:=indexByte_pos c l
  have hg:=Lib.indexByte_ge l c
  rw [Lib.indexByte,List.any_cons]
  by_cases hb:(b == c) = true
  ·rw [if_pos hb,hb];rfl
  rw [if_neg hb]
  have hb':(b == c) = false:=by simpa using hb
  rw [hb',Bool.false_or,← ih]
  by_cases h:Lib.indexByte l c = -1
  ·rw [h];rfl
  rw [if_neg (by simpa using h)]
  rw [decide_eq_true (by omega),decide_eq_true (by omega)]
theorem any_hyphen (s:ByteArray):decide (0 ≤ Lib.indexByte s.data.toList 45) = !noH s:=by
 rw [indexByte_pos,Bool.eq_iff_iff,List.any_eq_true,Bool.not_eq_true',← Bool.not_eq_true]
 unfold noH
 rw [allF_iff]
 constructor
 ·rintro ⟨x,hx,he⟩ hall
  obtain ⟨i,hi,rfl⟩:=List.getElem_of_mem hx
  have hi':i < s.size:=by rw [← data_length];exact hi
  have:=hall i (by omega) (by omega)
  rw [decide_eq_true_eq] at this
  apply this
  rw [bt_get hi']
  have e:s[i] = 45:=by rw [← data_get hi'];simpa using he
  rw [e];rfl
 intro h
 have:∃ i,i < s.size ∧ bt s (i:Int) = 45:=by
  apply Classical.byContradiction
  intro hno
  apply h
  intro j _ hj
  rw [decide_eq_true_eq]
  exact fun he=>hno ⟨j,by omega,he⟩
 obtain ⟨i,hi,he⟩:=this
 refine ⟨s.data.toList[i]'(by rw [data_length];exact hi),List.getElem_mem _,?_⟩
 rw [data_get hi]
 rw [bt_get hi] at he
 have:s[i] = 45:=by
  rw [← UInt8.toNat_inj]
  show s[i].toNat = 45
  omega
 rw [this];rfl
end Go.Proofs.Ythpahlkhiknofaa.P
namespace Go.Proofs.Ythpahlkhiknofaa.G
open Go Go.RowKit Go.Proofs.YthpahlkhiknofaaW.PrintWords
def strings_Contains.f (a0 a1:ByteArray):Option Bool:=if a1 = ⟨#[45]⟩ then some (!P.noH a0) else none
theorem strings_Contains.calls (a0 a1:ByteArray) (r:Bool) (w:World) (h:strings_Contains.f a0 a1 = some r):Calls Try.prog 92 #[.string a0,.string a1] w fun e w'=>e = .returned (.bool r) ∧ Below w.heap.size w w':=by
 unfold strings_Contains.f at h
 by_cases hb:a1 = ⟨#[45]⟩
 case neg =>
  rw [if_neg hb] at h;cases h
 rw [if_pos hb] at h
 obtain rfl:=Option.some.inj h
 subst hb
 refine (Try.strings_Contains_one a0 45 w).mono fun e w' he=>?_
 obtain ⟨rfl,rfl⟩:=he
 exact ⟨by rw [P.any_hyphen],Below.refl _ _⟩
end Go.Proofs.Ythpahlkhiknofaa.G
namespace Go.Proofs.Ythpahlkhiknofaa.G
open Go.RowKit Go.Proofs.YthpahlkhiknofaaW.PrintWords Go.Proofs.YthpahlkhiknofaaW.PrintLast Go.Proofs.YthpahlkhiknofaaW.PrintMore
set_option maxHeartbeats 8000000
set_option maxRecDepth 100000
attribute [local go_sem] max2_int min2_int max_two min_two max_three min_three max_four min_four   -- for this text's walks alone
def card_newTotal.f (a0:ByteArray):Option (Int × ByteArray × Bool):=(card_newFunction.f a0).bind fun bt116=>(if bt116.2.2 = true then ((strings_Contains.f a0 (⟨#[45]⟩:ByteArray)).bind fun t120=>(some (bt116.1,bt116.2.1,!t120))) else (some (bt116.1,bt116.2.1,false)))
def card_newTotal.T2:Bool × List (List Nat × List Nat):=(true,[([],[]),([],[]),([1],[1]),([2],[2]),([3,2,2],[2,3]),([4,2],[2,4]),([2,5],[2,5]),([0,4,0],[0]),([6,7,0,1,2,3,4,5,6,7],[6])])
def card_newTotal.B2:List Nat:=[0,0,2,6,14,30,62,31,255]
theorem card_newTotal.tab2:rtab .any (opsOf Try.f58 2) = card_newTotal.T2:=by kernel_rfl
theorem card_newTotal.bits2:waitsOk card_newTotal.T2.2 card_newTotal.B2 = true:=by kernel_rfl
theorem card_newTotal.calls (a0:ByteArray) (r1:Int) (r2:ByteArray) (r3:Bool) (w:World) (h:card_newTotal.f a0 = some (r1,r2,r3)) :
  Calls Try.prog 58 #[.string a0] w fun e w'=>e = .returned (.tuple #[.agg #[.int .i64 r1,.string r2],.bool r3]) ∧ Below w.heap.size w w':=by
 have hu81:=Try.underlying81
 have HB:=Aside0.mk (Below.refl w.heap.size w)
 have H:((card_newFunction.f a0).bind fun bt116=>(if bt116.2.2 = true then ((strings_Contains.f a0 (⟨#[45]⟩:ByteArray)).bind fun t120=>(some (bt116.1,bt116.2.1,!t120))) else (some (bt116.1,bt116.2.1,false)))) = some (r1,r2,r3):=h
 clear h
 replace H:=Option.bind_eq_some_iff.mp H
 obtain ⟨⟨t116,t117,t118⟩,A20,H⟩:=H
 replace H:(if t118 = true then ((strings_Contains.f a0 (⟨#[45]⟩:ByteArray)).bind fun t120=>(some (t116,t117,!t120))) else (some (t116,t117,false))) = some (r1,r2,r3):=H
 have A2:=Aside0.mk A20
 clear A20
 by_cases c3:t118 = true
 case neg =>
  replace c3:=Bool.eq_false_iff.mpr c3
  subst c3
  have H1:(some (t116,t117,false)) = some (r1,r2,r3):=by rw [if_neg (show ¬ (false = true) by decide)] at H;exact H
  clear H
  have H:=H1
  clear H1
  simp only [Option.some.injEq,Prod.mk.injEq] at H
  obtain ⟨rfl,rfl,rfl⟩:=H
  go_enter Try.func58,Try.ntmps58
  try go_wp2_with (first | ((with_reducible refine gate_dst (N:=2) rfl ?_);refine box_event ?hg (N:=2) ?hd (cs:=#[.int .i64 0,.string (⟨#[]⟩:ByteArray)]) (t:=81) ?hr ?_;(case hd=>rfl);(case hg=>rfl);(case hr=>first | (go_simp;done) | (go_simp;rfl));intro gb115 hg w15 hbox hb;have n0_:=Aside0.mk (below_step (by repeat (first | (with_reducible first | exact HB.out | apply below_alloc | apply pw_below_drewN | apply below_drew1) | exact HB.out)) hb);have n1_:=Aside0.mk (hbox);have n2_:=Aside0.mk ((by rw [hg];exact (below_size (by repeat (first | (with_reducible first | exact HB.out | apply below_alloc | apply pw_below_drewN | apply below_drew1) | exact HB.out))):w.heap.size ≤ gb115));have n3_:=Aside0.mk ((by rw [hg];exact (below_size (by repeat (first | (with_reducible first | exact HB.out | apply below_alloc | apply pw_below_drewN | apply below_drew1) | exact HB.out))):w.heap.size ≤ gb115));clear HB;have HB:=n0_;have BK115:=n1_;have GW115:=n2_;have GE115:=n3_;clear n0_ n1_ n2_ n3_;clear hb hbox hg) | ((with_reducible refine gate_callee (f:=65) rfl ?_);refine goesL_ (some 8) rfl rfl Try.func65 (by kernel_rfl) rfl #[.string a0] rfl (by (try simp only [List.map_toArray,List.map_cons,List.map_nil]);first | done | rfl | (simp only [List.length_drop,List.length_take];rfl)) ?_;(with_reducible refine (card_newFunction.calls a0 t116 t117 false _ A2.out).mono ?_);rintro e w16 ⟨rfl,hb⟩;refine ⟨_,rfl,?_⟩;have n0_:=Aside0.mk (blk_below (g:=gb115) (o:=.cells #[.int .i64 0,.string (⟨#[]⟩:ByteArray)] 81 (0,0)) (by (with_reducible repeat (first | refine blk_drewN ?_ _ | refine blk_drew ?_ | refine blk_alloc ?_ _));exact BK115.out) hb);have n1_:=Aside0.mk (below_step (by repeat (first | (with_reducible first | exact HB.out | apply below_alloc | apply pw_below_drewN | apply below_drew1 | refine below_set ?_ GE115.out) | exact HB.out)) hb);clear BK115;clear HB;have BK115:=n0_;have HB:=n1_;clear n0_ n1_;(try clear hb)) | ((with_reducible refine gate_dst (N:=4) rfl ?_);refine box_event ?hg (N:=4) ?hd (cs:=#[.int .i64 0,.string (⟨#[]⟩:ByteArray)]) (t:=81) ?hr ?_;(case hd=>rfl);(case hg=>rfl);(case hr=>first | (go_simp;done) | (go_simp;rfl));intro gb119 hg w17 hbox hb;have n0_:=Aside0.mk (blk_below (g:=gb115) (o:=.cells #[.int .i64 0,.string (⟨#[]⟩:ByteArray)] 81 (0,0)) (by (with_reducible repeat (first | refine blk_drewN ?_ _ | refine blk_drew ?_ | refine blk_alloc ?_ _));exact BK115.out) hb);have n1_:=Aside0.mk (below_step (by repeat (first | (with_reducible first | exact HB.out | apply below_alloc | apply pw_below_drewN | apply below_drew1 | refine below_set ?_ GE115.out) | exact HB.out)) hb);have n2_:=Aside0.mk (hbox);have n3_:=Aside0.mk ((by rw [hg];exact (below_size (by repeat (first | (with_reducible first | exact HB.out | apply below_alloc | apply pw_below_drewN | apply below_drew1 | refine below_set ?_ GE115.out) | exact HB.out))):w.heap.size ≤ gb119));have n4_:=Aside0.mk ((by rw [hg];exact (below_size (by repeat (first | (with_reducible first | exact HB.out | apply below_alloc | apply pw_below_drewN | apply below_drew1 | refine below_set ?_ GE115.out) | exact HB.out))):w.heap.size ≤ gb119));have n5_:=Aside0.mk ((by rw [hg];exact Nat.ne_of_lt (blk_lt (g:=gb115) (o:=.cells #[.int .i64 0,.string (⟨#[]⟩:ByteArray)] 81 (0,0)) (by (with_reducible repeat (first | refine blk_drewN ?_ _ | refine blk_drew ?_ | refine blk_alloc ?_ _));exact BK115.out)):gb115 ≠ gb119));have n6_:=Aside0.mk ((by rw [hg];exact Nat.ne_of_gt (blk_lt (g:=gb115) (o:=.cells #[.int .i64 0,.string (⟨#[]⟩:ByteArray)] 81 (0,0)) (by (with_reducible repeat (first | refine blk_drewN ?_ _ | refine blk_drew ?_ | refine blk_alloc ?_ _));exact BK115.out)):gb119 ≠ gb115));clear BK115;clear HB;have BK115:=n0_;have HB:=n1_;have BK119:=n2_;have GW119:=n3_;have GE119:=n4_;have NB115_119:=n5_;have NB119_115:=n6_;clear n0_ n1_ n2_ n3_ n4_ n5_ n6_;clear hb hbox hg;have hnb18:=NB119_115.out;have hnc18:=NB115_119.out;have hcz19_0:w17.cell? ⟨gb119,0,none⟩ = some (.int .i64 0):=(blk_cell BK119.out 0).trans rfl;have hcz19_1:w17.cell? ⟨gb119,1,none⟩ = some (.string (⟨#[]⟩:ByteArray)):=(blk_cell BK119.out 1).trans rfl;have hfz19_0:=blk_frozen BK119.out 0;have hfz19_1:=blk_frozen BK119.out 1))
  have n0_:Aside0 (((w17.setCell ⟨gb119,0,none⟩ (.int .i64 t116)).setCell ⟨gb119,1,none⟩ (.string t117)).heap[gb115]? = some (.cells #[.int .i64 0,.string (⟨#[]⟩:ByteArray)] 81 (0,0))):=⟨by (with_reducible repeat (first | refine blk_drewN ?_ _ | refine blk_drew ?_ | refine blk_alloc ?_ _));refine blk_far ?_ NB115_119.out _;(with_reducible repeat (first | refine blk_drewN ?_ _ | refine blk_drew ?_ | refine blk_alloc ?_ _));refine blk_far ?_ NB115_119.out _;(with_reducible repeat (first | refine blk_drewN ?_ _ | refine blk_drew ?_ | refine blk_alloc ?_ _));exact BK115.out⟩
  have n1_:Aside0 (((w17.setCell ⟨gb119,0,none⟩ (.int .i64 t116)).setCell ⟨gb119,1,none⟩ (.string t117)).heap[gb119]? = some (.cells #[.int .i64 t116,.string t117] 81 (0,0))):=⟨by (with_reducible repeat (first | refine blk_drewN ?_ _ | refine blk_drew ?_ | refine blk_alloc ?_ _));refine blk_put (cs:=#[.int .i64 t116,.string (⟨#[]⟩:ByteArray)]) ?_ 1 _ rfl;(with_reducible repeat (first | refine blk_drewN ?_ _ | refine blk_drew ?_ | refine blk_alloc ?_ _));refine blk_put (cs:=#[.int .i64 0,.string (⟨#[]⟩:ByteArray)]) ?_ 0 _ rfl;(with_reducible repeat (first | refine blk_drewN ?_ _ | refine blk_drew ?_ | refine blk_alloc ?_ _));exact BK119.out⟩
  have n2_:Aside0 (Below w.heap.size w ((w17.setCell ⟨gb119,0,none⟩ (.int .i64 t116)).setCell ⟨gb119,1,none⟩ (.string t117))):=⟨by repeat (first | (with_reducible first | exact HB.out | apply below_alloc | apply pw_below_drewN | apply below_drew1 | refine below_set ?_ GE115.out | refine below_set ?_ GE119.out) | exact HB.out)⟩
  (try clear BK115)
  (try clear BK119)
  (try clear HB)
  generalize ((w17.setCell ⟨gb119,0,none⟩ (.int .i64 t116)).setCell ⟨gb119,1,none⟩ (.string t117)) = w20 at n0_ n1_ n2_ ⊢
  have BK115:=n0_
  have BK119:=n1_
  have HB:=n2_
  clear n0_ n1_ n2_
  have n0_:=Aside0.mk (blk_drew BK115.out)
  have n1_:=Aside0.mk (blk_drew BK119.out)
  have n2_:=Aside0.mk (below_drew1 HB.out)
  clear BK115
  clear BK119
  clear HB
  have BK115:=n0_
  have BK119:=n1_
  have HB:=n2_
  clear n0_ n1_ n2_
  refine start_ (n:=9) (S:=fun w'=>w'.cell? ⟨gb119,0,none⟩ = some (.int .i64 t116) ∧ w'.cell? ⟨gb119,1,none⟩ = some (.string t117)) (ds:=[]) #[false,false,false,false,false,false,false,false,false] (by kernel_rfl) rfl rfl ⟨(blk_cell BK119.out 0).trans rfl,(blk_cell BK119.out 1).trans rfl⟩ (fun hHeld=>?_);refine with_tabW card_newTotal.tab2 card_newTotal.bits2 (fun HT_ HW_=>?_)
  generalize w20.drew = w21 at BK115 BK119 HB hHeld ⊢
  refine pure_ (i:=1) (N:=some 12) (v:=?_) (a':=?_) #[false,true,false,false,false,false,false,false,false] rfl rfl (any_of HT_.out (by kernel_rfl)) (fun _ _ _ h=>h) (Or.inl ⟨by rfl,?_⟩) ?_ ?_
  rotate_left
  ·intro w'
   go_simp
   with_reducible rfl
  rotate_left
  ·simp only [Act.put,List.setIfInBounds_toArray,List.set_cons_zero,List.set_cons_succ,i64_w,i32_w]
   rfl
  refine pure_ (i:=2) (N:=some 13) (v:=?_) (a':=?_) #[false,true,true,false,false,false,false,false,false] rfl rfl (any_of HT_.out (by kernel_rfl)) (fun _ _ _ h=>h) (Or.inl ⟨by rfl,?_⟩) ?_ ?_
  rotate_left
  ·intro w'
   go_simp
   with_reducible rfl
  rotate_left
  ·simp only [Act.put,List.setIfInBounds_toArray,List.set_cons_zero,List.set_cons_succ,i64_w,i32_w]
   rfl
  refine pure_ (i:=3) (N:=some 14) (v:=undef) (a':=?_) #[false,true,true,true,false,false,false,false,false] rfl rfl (any_of HT_.out (by kernel_rfl)) (fun _ _ _ h=>h) (Or.inr ⟨by rfl,rfl⟩) ?_ ?_
  rotate_left
  ·simp only [Act.put,List.setIfInBounds_toArray,List.set_cons_zero,List.set_cons_succ,i64_w,i32_w]
   rfl
  refine pure_ (i:=4) (N:=some 15) (v:=undef) (a':=?_) #[false,true,true,true,true,false,false,false,false] rfl rfl (any_of HT_.out (by kernel_rfl)) (fun _ _ _ h=>h) (Or.inr ⟨by rfl,rfl⟩) ?_ ?_
  rotate_left
  ·simp only [Act.put,List.setIfInBounds_toArray,List.set_cons_zero,List.set_cons_succ,i64_w,i32_w]
   rfl
  refine pure_ (i:=5) (N:=some 16) (v:=undef) (a':=?_) #[false,true,true,true,true,true,false,false,false] rfl rfl (any_of HT_.out (by kernel_rfl)) (fun _ _ _ h=>h) (Or.inr ⟨by rfl,rfl⟩) ?_ ?_
  rotate_left
  ·simp only [Act.put,List.setIfInBounds_toArray,List.set_cons_zero,List.set_cons_succ,i64_w,i32_w]
   rfl
  refine pure_ (i:=6) (N:=some 17) (v:=?_) (a':=?_) #[false,true,true,true,true,true,true,false,false] rfl rfl (any_of HT_.out (by kernel_rfl)) (fun _ _ _ h=>h) (Or.inl ⟨by rfl,?_⟩) ?_ ?_
  rotate_left
  ·intro w'
   go_simp
   with_reducible rfl
  rotate_left
  ·simp only [Act.put,List.setIfInBounds_toArray,List.set_cons_zero,List.set_cons_succ,i64_w,i32_w]
   rfl
  refine take_ (i:=0) (N:=some 11) (v:=?_) (a':=?_) #[true,true,true,true,true,true,true,false,false] rfl rfl (take_ofW HT_.out HW_.out (by kernel_rfl)) (fun _ _ _ h=>h) (Or.inl ⟨by rfl,?_⟩) hHeld ?_ ?_
  rotate_left
  ·rintro w' ⟨s0,s1⟩
   go_simp
   with_reducible rfl
  rotate_left
  ·simp only [Act.put,List.setIfInBounds_toArray,List.set_cons_zero,List.set_cons_succ,i64_w,i32_w]
   rfl
  refine one_ (i:=7) (N:=none) #[true,true,true,true,true,true,true,true,false] rfl rfl (one_of HT_.out (by kernel_rfl)) (by decide) (fun K hK=>?_)
  have hs22:w21.cell? ⟨gb115,0,none⟩ = some (.int .i64 0):=(blk_cell BK115.out 0).trans rfl
  have hfs22:=blk_frozen BK115.out 0
  have hns22_1:=NB119_115.out
  have hms22_1:=NB115_119.out
  have hs23:w21.cell? ⟨gb115,1,none⟩ = some (.string (⟨#[]⟩:ByteArray)):=(blk_cell BK115.out 1).trans rfl
  have hfs23:=blk_frozen BK115.out 1
  have hns23_1:=NB119_115.out
  have hms23_1:=NB115_119.out
  refine skip_ (w1:=?_) (by rfl) rfl ?_ ?_
  rotate_left
  ·go_simp
   rfl
  refine hK.out _ _ ⟨((cell_far (p:=⟨gb115,_,none⟩) NB119_115.out _).trans (((cell_far (p:=⟨gb115,_,none⟩) NB119_115.out _).trans (hHeld.1)))),((cell_far (p:=⟨gb115,_,none⟩) NB119_115.out _).trans (((cell_far (p:=⟨gb115,_,none⟩) NB119_115.out _).trans (hHeld.2))))⟩ (fun hHeld=>?_)
  clear hK K
  refine pure_ (i:=8) (N:=some 3) (v:=?_) (a':=?_) #[true,true,true,true,true,true,true,true,true] rfl rfl (any_of HT_.out (by kernel_rfl)) (fun _ _ _ h=>h) (Or.inl ⟨by rfl,?_⟩) ?_ ?_
  rotate_left
  ·intro w'
   go_simp
   with_reducible rfl
  rotate_left
  ·simp only [Act.put,List.setIfInBounds_toArray,List.set_cons_zero,List.set_cons_succ,i64_w,i32_w]
   rfl
  refine done_ (done_of HT_.out (by kernel_rfl)) ?_
  try go_wp2
  refine bodyPost_ret (results_ct rfl _ _ gb115 81 #[.int .i64 t116,.string t117] (0,0) _ rfl (by (with_reducible repeat (first | refine blk_drewN ?_ _ | refine blk_drew ?_ | refine blk_alloc ?_ _));refine blk_put (cs:=#[.int .i64 t116,.string (⟨#[]⟩:ByteArray)]) ?_ 1 _ rfl;(with_reducible repeat (first | refine blk_drewN ?_ _ | refine blk_drew ?_ | refine blk_alloc ?_ _));refine blk_put (cs:=#[.int .i64 0,.string (⟨#[]⟩:ByteArray)]) ?_ 0 _ rfl;(with_reducible repeat (first | refine blk_drewN ?_ _ | refine blk_drew ?_ | refine blk_alloc ?_ _));exact BK115.out) Try.underlying81 rfl (by kernel_rfl)) rfl ?_
  exact ⟨by first | rfl | (simp [errW_none,errW_some] <;> rfl) | (simp [*,errW_none,errW_some] <;> rfl),by repeat (first | (with_reducible first | exact HB.out | apply below_alloc | apply pw_below_drewN | apply below_drew1 | refine below_set ?_ GE115.out | refine below_set ?_ GE119.out) | exact HB.out)⟩
 subst c3
 have H1:((strings_Contains.f a0 (⟨#[45]⟩:ByteArray)).bind fun t120=>(some (t116,t117,!t120))) = some (r1,r2,r3):=by rw [if_pos rfl] at H;exact H
 clear H
 have H:=H1
 clear H1
 replace H:=Option.bind_eq_some_iff.mp H
 obtain ⟨t120,A40,H⟩:=H
 replace H:(some (t116,t117,!t120)) = some (r1,r2,r3):=H
 have A4:=Aside0.mk A40
 clear A40
 simp only [Option.some.injEq,Prod.mk.injEq] at H
 obtain ⟨rfl,rfl,rfl⟩:=H
 go_enter Try.func58,Try.ntmps58
 try go_wp2_with (first | ((with_reducible refine gate_dst (N:=2) rfl ?_);refine box_event ?hg (N:=2) ?hd (cs:=#[.int .i64 0,.string (⟨#[]⟩:ByteArray)]) (t:=81) ?hr ?_;(case hd=>rfl);(case hg=>rfl);(case hr=>first | (go_simp;done) | (go_simp;rfl));intro gb115 hg w5 hbox hb;have n0_:=Aside0.mk (below_step (by repeat (first | (with_reducible first | exact HB.out | apply below_alloc | apply pw_below_drewN | apply below_drew1) | exact HB.out)) hb);have n1_:=Aside0.mk (hbox);have n2_:=Aside0.mk ((by rw [hg];exact (below_size (by repeat (first | (with_reducible first | exact HB.out | apply below_alloc | apply pw_below_drewN | apply below_drew1) | exact HB.out))):w.heap.size ≤ gb115));have n3_:=Aside0.mk ((by rw [hg];exact (below_size (by repeat (first | (with_reducible first | exact HB.out | apply below_alloc | apply pw_below_drewN | apply below_drew1) | exact HB.out))):w.heap.size ≤ gb115));clear HB;have HB:=n0_;have BK115:=n1_;have GW115:=n2_;have GE115:=n3_;clear n0_ n1_ n2_ n3_;clear hb hbox hg) | ((with_reducible refine gate_callee (f:=65) rfl ?_);refine goesL_ (some 8) rfl rfl Try.func65 (by kernel_rfl) rfl #[.string a0] rfl (by (try simp only [List.map_toArray,List.map_cons,List.map_nil]);first | done | rfl | (simp only [List.length_drop,List.length_take];rfl)) ?_;(with_reducible refine (card_newFunction.calls a0 t116 t117 true _ A2.out).mono ?_);rintro e w6 ⟨rfl,hb⟩;refine ⟨_,rfl,?_⟩;have n0_:=Aside0.mk (blk_below (g:=gb115) (o:=.cells #[.int .i64 0,.string (⟨#[]⟩:ByteArray)] 81 (0,0)) (by (with_reducible repeat (first | refine blk_drewN ?_ _ | refine blk_drew ?_ | refine blk_alloc ?_ _));exact BK115.out) hb);have n1_:=Aside0.mk (below_step (by repeat (first | (with_reducible first | exact HB.out | apply below_alloc | apply pw_below_drewN | apply below_drew1 | refine below_set ?_ GE115.out) | exact HB.out)) hb);clear BK115;clear HB;have BK115:=n0_;have HB:=n1_;clear n0_ n1_;(try clear hb)) | ((with_reducible refine gate_dst (N:=4) rfl ?_);refine box_event ?hg (N:=4) ?hd (cs:=#[.int .i64 0,.string (⟨#[]⟩:ByteArray)]) (t:=81) ?hr ?_;(case hd=>rfl);(case hg=>rfl);(case hr=>first | (go_simp;done) | (go_simp;rfl));intro gb119 hg w7 hbox hb;have n0_:=Aside0.mk (blk_below (g:=gb115) (o:=.cells #[.int .i64 0,.string (⟨#[]⟩:ByteArray)] 81 (0,0)) (by (with_reducible repeat (first | refine blk_drewN ?_ _ | refine blk_drew ?_ | refine blk_alloc ?_ _));exact BK115.out) hb);have n1_:=Aside0.mk (below_step (by repeat (first | (with_reducible first | exact HB.out | apply below_alloc | apply pw_below_drewN | apply below_drew1 | refine below_set ?_ GE115.out) | exact HB.out)) hb);have n2_:=Aside0.mk (hbox);have n3_:=Aside0.mk ((by rw [hg];exact (below_size (by repeat (first | (with_reducible first | exact HB.out | apply below_alloc | apply pw_below_drewN | apply below_drew1 | refine below_set ?_ GE115.out) | exact HB.out))):w.heap.size ≤ gb119));have n4_:=Aside0.mk ((by rw [hg];exact (below_size (by repeat (first | (with_reducible first | exact HB.out | apply below_alloc | apply pw_below_drewN | apply below_drew1 | refine below_set ?_ GE115.out) | exact HB.out))):w.heap.size ≤ gb119));have n5_:=Aside0.mk ((by rw [hg];exact Nat.ne_of_lt (blk_lt (g:=gb115) (o:=.cells #[.int .i64 0,.string (⟨#[]⟩:ByteArray)] 81 (0,0)) (by (with_reducible repeat (first | refine blk_drewN ?_ _ | refine blk_drew ?_ | refine blk_alloc ?_ _));exact BK115.out)):gb115 ≠ gb119));have n6_:=Aside0.mk ((by rw [hg];exact Nat.ne_of_gt (blk_lt (g:=gb115) (o:=.cells #[.int .i64 0,.string (⟨#[]⟩:ByteArray)] 81 (0,0)) (by (with_reducible repeat (first | refine blk_drewN ?_ _ | refine blk_drew ?_ | refine blk_alloc ?_ _));exact BK115.out)):gb119 ≠ gb115));clear BK115;clear HB;have BK115:=n0_;have HB:=n1_;have BK119:=n2_;have GW119:=n3_;have GE119:=n4_;have NB115_119:=n5_;have NB119_115:=n6_;clear n0_ n1_ n2_ n3_ n4_ n5_ n6_;clear hb hbox hg;have hnb8:=NB119_115.out;have hnc8:=NB115_119.out;have hcz9_0:w7.cell? ⟨gb119,0,none⟩ = some (.int .i64 0):=(blk_cell BK119.out 0).trans rfl;have hcz9_1:w7.cell? ⟨gb119,1,none⟩ = some (.string (⟨#[]⟩:ByteArray)):=(blk_cell BK119.out 1).trans rfl;have hfz9_0:=blk_frozen BK119.out 0;have hfz9_1:=blk_frozen BK119.out 1))
 have n0_:Aside0 (((w7.setCell ⟨gb119,0,none⟩ (.int .i64 t116)).setCell ⟨gb119,1,none⟩ (.string t117)).heap[gb115]? = some (.cells #[.int .i64 0,.string (⟨#[]⟩:ByteArray)] 81 (0,0))):=⟨by (with_reducible repeat (first | refine blk_drewN ?_ _ | refine blk_drew ?_ | refine blk_alloc ?_ _));refine blk_far ?_ NB115_119.out _;(with_reducible repeat (first | refine blk_drewN ?_ _ | refine blk_drew ?_ | refine blk_alloc ?_ _));refine blk_far ?_ NB115_119.out _;(with_reducible repeat (first | refine blk_drewN ?_ _ | refine blk_drew ?_ | refine blk_alloc ?_ _));exact BK115.out⟩
 have n1_:Aside0 (((w7.setCell ⟨gb119,0,none⟩ (.int .i64 t116)).setCell ⟨gb119,1,none⟩ (.string t117)).heap[gb119]? = some (.cells #[.int .i64 t116,.string t117] 81 (0,0))):=⟨by (with_reducible repeat (first | refine blk_drewN ?_ _ | refine blk_drew ?_ | refine blk_alloc ?_ _));refine blk_put (cs:=#[.int .i64 t116,.string (⟨#[]⟩:ByteArray)]) ?_ 1 _ rfl;(with_reducible repeat (first | refine blk_drewN ?_ _ | refine blk_drew ?_ | refine blk_alloc ?_ _));refine blk_put (cs:=#[.int .i64 0,.string (⟨#[]⟩:ByteArray)]) ?_ 0 _ rfl;(with_reducible repeat (first | refine blk_drewN ?_ _ | refine blk_drew ?_ | refine blk_alloc ?_ _));exact BK119.out⟩
 have n2_:Aside0 (Below w.heap.size w ((w7.setCell ⟨gb119,0,none⟩ (.int .i64 t116)).setCell ⟨gb119,1,none⟩ (.string t117))):=⟨by repeat (first | (with_reducible first | exact HB.out | apply below_alloc | apply pw_below_drewN | apply below_drew1 | refine below_set ?_ GE115.out | refine below_set ?_ GE119.out) | exact HB.out)⟩
 (try clear BK115)
 (try clear BK119)
 (try clear HB)
 generalize ((w7.setCell ⟨gb119,0,none⟩ (.int .i64 t116)).setCell ⟨gb119,1,none⟩ (.string t117)) = w10 at n0_ n1_ n2_ ⊢
 have BK115:=n0_
 have BK119:=n1_
 have HB:=n2_
 clear n0_ n1_ n2_
 have n0_:=Aside0.mk (blk_drew BK115.out)
 have n1_:=Aside0.mk (blk_drew BK119.out)
 have n2_:=Aside0.mk (below_drew1 HB.out)
 clear BK115
 clear BK119
 clear HB
 have BK115:=n0_
 have BK119:=n1_
 have HB:=n2_
 clear n0_ n1_ n2_
 refine start_ (n:=9) (S:=fun w'=>w'.cell? ⟨gb119,0,none⟩ = some (.int .i64 t116) ∧ w'.cell? ⟨gb119,1,none⟩ = some (.string t117)) (ds:=[]) #[false,false,false,false,false,false,false,false,false] (by kernel_rfl) rfl rfl ⟨(blk_cell BK119.out 0).trans rfl,(blk_cell BK119.out 1).trans rfl⟩ (fun hHeld=>?_);refine with_tabW card_newTotal.tab2 card_newTotal.bits2 (fun HT_ HW_=>?_)
 generalize w10.drew = w11 at BK115 BK119 HB hHeld ⊢
 refine pure_ (i:=1) (N:=some 12) (v:=?_) (a':=?_) #[false,true,false,false,false,false,false,false,false] rfl rfl (any_of HT_.out (by kernel_rfl)) (fun _ _ _ h=>h) (Or.inl ⟨by rfl,?_⟩) ?_ ?_
 rotate_left
 ·intro w'
  go_simp
  with_reducible rfl
 rotate_left
 ·simp only [Act.put,List.setIfInBounds_toArray,List.set_cons_zero,List.set_cons_succ,i64_w,i32_w]
  rfl
 refine pure_ (i:=2) (N:=some 13) (v:=?_) (a':=?_) #[false,true,true,false,false,false,false,false,false] rfl rfl (any_of HT_.out (by kernel_rfl)) (fun _ _ _ h=>h) (Or.inl ⟨by rfl,?_⟩) ?_ ?_
 rotate_left
 ·intro w'
  go_simp
  with_reducible rfl
 rotate_left
 ·simp only [Act.put,List.setIfInBounds_toArray,List.set_cons_zero,List.set_cons_succ,i64_w,i32_w]
  rfl
 refine pure_ (i:=3) (N:=some 14) (v:=?_) (a':=?_) #[false,true,true,true,false,false,false,false,false] rfl rfl (any_of HT_.out (by kernel_rfl)) (fun _ _ _ h=>h) (Or.inl ⟨by rfl,?_⟩) ?_ ?_
 rotate_left
 ·intro w'
  go_simp
  with_reducible rfl
 rotate_left
 ·simp only [Act.put,List.setIfInBounds_toArray,List.set_cons_zero,List.set_cons_succ,i64_w,i32_w]
  rfl
 refine take_ (i:=0) (N:=some 11) (v:=?_) (a':=?_) #[true,true,true,true,false,false,false,false,false] rfl rfl (take_ofW HT_.out HW_.out (by kernel_rfl)) (fun _ _ _ h=>h) (Or.inl ⟨by rfl,?_⟩) hHeld ?_ ?_
 rotate_left
 ·rintro w' ⟨s0,s1⟩
  go_simp
  with_reducible rfl
 rotate_left
 ·simp only [Act.put,List.setIfInBounds_toArray,List.set_cons_zero,List.set_cons_succ,i64_w,i32_w]
  rfl
 refine one_ (i:=4) (N:=some 15) #[true,true,true,true,true,false,false,false,false] rfl rfl (one_of HT_.out (by kernel_rfl)) (by decide) (fun K hK=>?_)
 refine goes_ Try.func92 (by kernel_rfl) rfl #[.string a0,.string (⟨#[45]⟩:ByteArray)] (by rfl) rfl rfl (by (try simp only [List.map_toArray,List.map_cons,List.map_nil]);first | done | rfl | (simp only [List.length_drop,List.length_take];rfl)) ?_
 with_reducible refine (strings_Contains.calls a0 (⟨#[45]⟩:ByteArray) t120 _ A4.out).mono ?_
 rintro e w12 ⟨rfl,hb⟩
 refine ⟨_,rfl,?_⟩
 have n0_:=Aside0.mk (blk_below (g:=gb115) (o:=.cells #[.int .i64 0,.string (⟨#[]⟩:ByteArray)] 81 (0,0)) (by (with_reducible repeat (first | refine blk_drewN ?_ _ | refine blk_drew ?_ | refine blk_alloc ?_ _));exact BK115.out) hb)
 have n1_:=Aside0.mk (blk_below (g:=gb119) (o:=.cells #[.int .i64 t116,.string t117] 81 (0,0)) (by (with_reducible repeat (first | refine blk_drewN ?_ _ | refine blk_drew ?_ | refine blk_alloc ?_ _));exact BK119.out) hb)
 have n2_:=Aside0.mk (below_step (by repeat (first | (with_reducible first | exact HB.out | apply below_alloc | apply pw_below_drewN | apply below_drew1 | refine below_set ?_ GE115.out | refine below_set ?_ GE119.out) | exact HB.out)) hb)
 clear BK115
 clear BK119
 clear HB
 have BK115:=n0_
 have BK119:=n1_
 have HB:=n2_
 clear n0_ n1_ n2_
 (try clear hb)
 refine hK.out _ _ ⟨(blk_cell BK119.out 0).trans rfl,(blk_cell BK119.out 1).trans rfl⟩ (fun hHeld=>?_)
 clear hK K
 refine norm_ (a':=?_) ?_ ?_
 rotate_left
 ·show Act.put _ (some 15) _ = _
  simp only [Act.put,List.setIfInBounds_toArray,List.set_cons_zero,List.set_cons_succ,i64_w,i32_w]
  rfl
 refine pure_ (i:=5) (N:=some 16) (v:=?_) (a':=?_) #[true,true,true,true,true,true,false,false,false] rfl rfl (any_of HT_.out (by kernel_rfl)) (fun _ _ _ h=>h) (Or.inl ⟨by rfl,?_⟩) ?_ ?_
 rotate_left
 ·intro w'
  go_simp
  with_reducible rfl
 rotate_left
 ·simp only [Act.put,List.setIfInBounds_toArray,List.set_cons_zero,List.set_cons_succ,i64_w,i32_w]
  rfl
 refine pure_ (i:=6) (N:=some 17) (v:=?_) (a':=?_) #[true,true,true,true,true,true,true,false,false] rfl rfl (any_of HT_.out (by kernel_rfl)) (fun _ _ _ h=>h) (Or.inl ⟨by rfl,?_⟩) ?_ ?_
 rotate_left
 ·intro w'
  go_simp
  with_reducible rfl
 rotate_left
 ·simp only [Act.put,List.setIfInBounds_toArray,List.set_cons_zero,List.set_cons_succ,i64_w,i32_w]
  rfl
 refine one_ (i:=7) (N:=none) #[true,true,true,true,true,true,true,true,false] rfl rfl (one_of HT_.out (by kernel_rfl)) (by decide) (fun K hK=>?_)
 have hs13:w12.cell? ⟨gb115,0,none⟩ = some (.int .i64 0):=(blk_cell BK115.out 0).trans rfl
 have hfs13:=blk_frozen BK115.out 0
 have hns13_1:=NB119_115.out
 have hms13_1:=NB115_119.out
 have hs14:w12.cell? ⟨gb115,1,none⟩ = some (.string (⟨#[]⟩:ByteArray)):=(blk_cell BK115.out 1).trans rfl
 have hfs14:=blk_frozen BK115.out 1
 have hns14_1:=NB119_115.out
 have hms14_1:=NB115_119.out
 refine skip_ (w1:=?_) (by rfl) rfl ?_ ?_
 rotate_left
 ·go_simp
  rfl
 refine hK.out _ _ ⟨((cell_far (p:=⟨gb115,_,none⟩) NB119_115.out _).trans (((cell_far (p:=⟨gb115,_,none⟩) NB119_115.out _).trans (hHeld.1)))),((cell_far (p:=⟨gb115,_,none⟩) NB119_115.out _).trans (((cell_far (p:=⟨gb115,_,none⟩) NB119_115.out _).trans (hHeld.2))))⟩ (fun hHeld=>?_)
 clear hK K
 refine pure_ (i:=8) (N:=some 3) (v:=?_) (a':=?_) #[true,true,true,true,true,true,true,true,true] rfl rfl (any_of HT_.out (by kernel_rfl)) (fun _ _ _ h=>h) (Or.inl ⟨by rfl,?_⟩) ?_ ?_
 rotate_left
 ·intro w'
  go_simp
  with_reducible rfl
 rotate_left
 ·simp only [Act.put,List.setIfInBounds_toArray,List.set_cons_zero,List.set_cons_succ,i64_w,i32_w]
  rfl
 refine done_ (done_of HT_.out (by kernel_rfl)) ?_
 try go_wp2
 refine bodyPost_ret (results_ct rfl _ _ gb115 81 #[.int .i64 t116,.string t117] (0,0) _ rfl (by (with_reducible repeat (first | refine blk_drewN ?_ _ | refine blk_drew ?_ | refine blk_alloc ?_ _));refine blk_put (cs:=#[.int .i64 t116,.string (⟨#[]⟩:ByteArray)]) ?_ 1 _ rfl;(with_reducible repeat (first | refine blk_drewN ?_ _ | refine blk_drew ?_ | refine blk_alloc ?_ _));refine blk_put (cs:=#[.int .i64 0,.string (⟨#[]⟩:ByteArray)]) ?_ 0 _ rfl;(with_reducible repeat (first | refine blk_drewN ?_ _ | refine blk_drew ?_ | refine blk_alloc ?_ _));exact BK115.out) Try.underlying81 rfl (by kernel_rfl)) rfl ?_
 exact ⟨by first | rfl | (simp [errW_none,errW_some] <;> rfl) | (simp [*,errW_none,errW_some] <;> rfl),by repeat (first | (with_reducible first | exact HB.out | apply below_alloc | apply pw_below_drewN | apply below_drew1 | refine below_set ?_ GE115.out | refine below_set ?_ GE119.out) | exact HB.out)⟩
end Go.Proofs.Ythpahlkhiknofaa.G
set_option linter.unusedSectionVars false
namespace Go.Proofs.Ythpahlkhiknofaa.P
open Go Go.RowKit Go.Proofs.Ythpahlkhiknofaa.M Go.Proofs.Ythpahlkhiknofaa.G
open Go.Proofs.YthpahlkhiknofaaW.PrintWords Go.Proofs.YthpahlkhiknofaaW.PrintMore
/-- A total function. -/
def totB (c:ByteArray):Bool:=decide (fnN c ≠ 0) && noH c
theorem newT {c:ByteArray} (hc:c.size ≤ 40):∃ m:Int,(totB c = true → m = (fnN c:Int)) ∧ card_newTotal.f c = some (m,c,totB c):=by
  obtain ⟨m,hm,e⟩:=newF hc
  refine ⟨m,fun h=>hm (by unfold totB at h;rw [Bool.and_eq_true,decide_eq_true_eq] at h;exact h.1),?_⟩
  unfold card_newTotal.f
  rw [e,Option.bind_some]
  unfold totB
  by_cases h:fnN c ≠ 0
  · rw [decide_eq_true h,Bool.true_and,if_pos rfl]
    unfold strings_Contains.f
    rw [if_pos rfl,Option.bind_some,Bool.not_not]
  · rw [decide_eq_false h,Bool.false_and,if_neg (show ¬ (false = true) by decide)]
/-- What is known of a total function. -/
structure Tot (c:ByteArray) (n:Nat):Prop where
  n1:1 ≤ n
  n5:n ≤ 5
  size:c.size = 2 ^ n
  le:c.size ≤ 32
  val:∀ p,p < c.size → bt c (p:Int) = 48 ∨ bt c (p:Int) = 49
theorem tot_of {c:ByteArray} (hc:c.size ≤ 40) (h:totB c = true):Tot c (fnN c):=by
  unfold totB at h
  rw [Bool.and_eq_true,decide_eq_true_eq] at h
  obtain ⟨h1,h2,h3,h4,h5⟩:=fnN_pos hc h.1
  refine ⟨h3,h4,h2,h5,fun p hp=>?_⟩
  have a:=(allF_iff _ _ _).1 h1 p (by omega) (by omega)
  have b:=(allF_iff _ _ _).1 h.2 p (by omega) (by omega)
  unfold isC at a
  simp only [decide_eq_true_eq] at a b
  omega
section
variable {c:ByteArray} {n:Nat} (hT:Tot c n)
include hT
def tabI (m:Nat) (f:Nat → Int):List Int:=(List.range m).map f
omit hT in
theorem tabI_len (m:Nat) (f:Nat → Int):(tabI m f).length = m:=by simp [tabI]
omit hT in
theorem tabI_rd {m:Nat} {f:Nat → Int} {i:Nat} (h:i < m):rd (tabI m f) (i:Int) = f i:=by
  rw [rd_get (by rw [tabI_len];exact h)];simp [tabI]
omit hT in
theorem tabI_set {m:Nat} {f:Nat → Int} {i:Nat} (y:Int):(tabI m f).set i y = tabI m (fun v=>if v = i then y else f v):=by
  apply List.ext_getElem
  · simp [tabI]
  · intro j h1 h2
    rw [List.getElem_set]
    simp only [tabI,List.getElem_map,List.getElem_range]
    by_cases e:i = j
    · rw [if_pos e,if_pos e.symm]
    · rw [if_neg e,if_neg (fun h=>e h.symm)]
omit hT in
theorem tabI_congr {m:Nat} {f g:Nat → Int} (h:∀ v,v < m → f v = g v):tabI m f = tabI m g:=List.map_congr_left fun v hv=>h v (List.mem_range.1 hv)
end
end Go.Proofs.Ythpahlkhiknofaa.P
namespace Go.Proofs.Ythpahlkhiknofaa.H
open Go Go.RowKit Go.Shelf Go.Proofs.Ythpahlkhiknofaa.G Go.Proofs.YthpahlkhiknofaaW.PrintWords
def fitL {α:Type} (l:List α):Prop:=l.length ≤ 9223372036854775807
instance {α:Type} (l:List α):Decidable (fitL l):=by unfold fitL;exact inferInstance
theorem wide_fn (f:FuncId):Fence.wide.fn f = True:=rfl
attribute [local go_sem] Oper.semAt_some wide_fn
theorem within_val (a lo hi:Int) (w:World):Calls Try.prog 61 #[.int .i64 a,.int .i64 lo,.int .i64 hi] w fun e w'=>e = .returned (.bool (decide (lo ≤ a ∧ a ≤ hi))) ∧ Drawn0 w w':=by
 refine card_within.calls a lo hi _ w ?_
 unfold card_within.f
 by_cases h:a ≥ lo
 case neg =>
  rw [if_neg h]
  congr 1
  rw [eq_comm,decide_eq_false_iff_not]
  exact fun k=>h k.1
 rw [if_pos h]
 congr 1
 rw [Bool.eq_iff_iff,decide_eq_true_iff,decide_eq_true_iff]
 exact ⟨fun k=>⟨h,k⟩,fun k=>k.2⟩
set_option maxHeartbeats 1000000 in
theorem c60_any (x:Int) (w:World):Calls Try.prog 60 #[.int .i64 x] w fun e w'=>e = .returned (.bool (!decide (-1000000 ≤ x ∧ x ≤ 1000000))) ∧ Below w.heap.size w w':=by
 refine (callsIn_wide (n:=9)).1 ?_
 refine callsIn_of_wp Try.func60 rfl trivial ?_
 simp only [Try.ntmps60,List.size_toArray,List.length_cons,List.length_nil,Nat.reduceAdd,Nat.reduceSub,Array.replicate_succ,Array.replicate_zero,List.push_toArray,List.append_toArray,List.nil_append,List.cons_append]
 gi_wp2_with fail
 refine (callsIn_wide.2 (within_val x (-1000000) 1000000 w)).mono ?_
 rintro e w1 ⟨rfl,hd⟩
 have HB:=Lib.hid hd.below
 clear hd
 gi_wp2_with fail
 exact bodyPost_ret (v:=.bool (!decide (-1000000 ≤ x) || !decide (x ≤ 1000000))) (results_tmp (t:=2) rfl _ _ _) rfl ⟨by rw [Bool.decide_and,Bool.not_and],HB.out⟩
set_option maxHeartbeats 4000000 in
set_option maxRecDepth 100000 in
theorem index60 (A:Option Addr) (c:Nat) (l:List Int) (w:World) (hl:Kd.C (Kd.int .i64) w A l.length l) (hlen:fitL l) :
  Calls Try.prog 93 #[.slice A l.length c,.func (.func 60) #[] #[]] w fun e w'=>∃ i:Int,e = .returned (.int .i64 i) ∧ decide (0 ≤ i) = l.any (fun x=>!decide (-1000000 ≤ x ∧ x ≤ 1000000)) ∧ Below w.heap.size w w':=by
 refine (callsIn_wide (n:=9)).1 ?_
 refine callsIn_of_wp Try.func93 rfl trivial ?_
 simp only [Try.ntmps93,List.size_toArray,List.length_cons,List.length_nil,Nat.reduceAdd,Nat.reduceSub,Array.replicate_succ,Array.replicate_zero,List.push_toArray,List.append_toArray,List.nil_append,List.cons_append]
 unfold fitL at hlen
 have HL:=Lib.hid hl
 clear hl
 gi_wp2_with fail
 gi_loopg [8] l.length (fun k s8 W=>∃ i:Nat,s8 = .int .i64 (i:Int) ∧ i ≤ l.length ∧ l.length ≤ k + i ∧ Below w.heap.size w W ∧ (l.take i).any (fun x=>!decide (-1000000 ≤ x ∧ x ≤ 1000000)) = false)
 case atStart=>exact ⟨0,rfl,by omega,by omega,Below.refl _ _,rfl⟩
 case round =>
  obtain ⟨i,rfl,hi,hk,hB,hany⟩:=hrel
  have HB:=Lib.hid hB
  have HA:=Lib.hid hany
  clear hB hany
  by_cases hil:i < l.length
  case neg =>
   have:i = l.length:=by omega
   subst this
   gi_wp2_with fail
   refine bodyPost_ret (v:=.int .i64 (-1)) (results_tmp (t:=4) rfl _ _ _) rfl ⟨-1,rfl,?_,HB.out⟩
   have:=HA.out
   rw [List.take_length] at this
   rw [this];simp
  have hI0:(0:Int) ≤ (i:Int):=by omega
  have hI1:(i:Int) < (l.length:Int):=by omega
  obtain ⟨ad,e0,hx⟩:=Kd.at_int HL.out (i:Int) hI0 hI1
  cases e0
  rw [Int.toNat_natCast] at hx
  have hcell:=(HB.out.cell (World.block_lt_of_cell? w _ hx)).trans hx
  obtain ⟨x,hxe⟩:∃ x,rd l (i:Int) = x:=⟨_,rfl⟩
  rw [hxe] at hcell
  have hxi:l[i] = x:=by rw [← hxe];unfold rd;simp [hil]
  have HXE:=Lib.hid hxi
  clear hx hxe hxi
  gi_wp2_with fail
  refine (callsIn_wide.2 (c60_any x _)).mono ?_
  rintro e w1 ⟨rfl,hb1⟩
  have HB1:=Lib.hid hb1
  have hs:=HB.out.size
  obtain ⟨q,hq⟩:∃ q,(!decide (-1000000 ≤ x ∧ x ≤ 1000000)) = q:=⟨_,rfl⟩
  rw [hq]
  have HQ:=Lib.hid hq
  clear hb1 hq
  cases q with
  | true =>
   gi_wp2_with fail
   refine bodyPost_ret (v:=.int .i64 (i:Int)) (results_tmp (t:=4) rfl _ _ _) rfl ⟨i,rfl,?_,HB.out.trans (HB1.out.mono hs)⟩
   have:l.any (fun x=>!decide (-1000000 ≤ x ∧ x ≤ 1000000)) = true:=List.any_eq_true.2 ⟨x,by rw [← HXE.out];exact List.getElem_mem hil,HQ.out⟩
   rw [this];simp
  | false =>
   gi_wp2_with fail
   gi_roundg (l.length - (i + 1))
   case measure=>omega
   case rel =>
    refine ⟨i + 1,by simp,by omega,by omega,HB.out.trans (HB1.out.mono hs),?_⟩
    rw [List.take_succ_eq_append_getElem hil,List.any_append,HA.out,HXE.out]
    simp only [List.any_cons,List.any_nil,Bool.or_false,Bool.false_or]
    exact HQ.out
set_option maxHeartbeats 4000000 in
theorem contains60 (A:Option Addr) (c:Nat) (l:List Int) (w:World) (hl:Kd.C (Kd.int .i64) w A l.length l) (hlen:fitL l) :
  Calls Try.prog 59 #[.slice A l.length c,.func (.func 60) #[] #[]] w fun e w'=>e = .returned (.bool (l.any (fun x=>!decide (-1000000 ≤ x ∧ x ≤ 1000000)))) ∧ Below w.heap.size w w':=by
 refine (callsIn_wide (n:=9)).1 ?_
 refine callsIn_of_wp Try.func59 rfl trivial ?_
 simp only [Try.ntmps59,List.size_toArray,List.length_cons,List.length_nil,Nat.reduceAdd,Nat.reduceSub,Array.replicate_succ,Array.replicate_zero,List.push_toArray,List.append_toArray,List.nil_append,List.cons_append]
 have HI:=Lib.hid (index60 A c l w hl hlen)
 clear hl
 gi_wp2_with fail
 refine (callsIn_wide.2 HI.out).mono ?_
 rintro e w1 ⟨i,rfl,hd,hb1⟩
 have HD:=Lib.hid hd
 have HB1:=Lib.hid hb1
 clear hd hb1
 gi_wp2_with fail
 refine bodyPost_ret (v:=.bool (decide (0 ≤ i))) (results_tmp (t:=4) rfl _ _ _) rfl ⟨by rw [HD.out],HB1.out⟩
end Go.Proofs.Ythpahlkhiknofaa.H
namespace Go.Proofs.Ythpahlkhiknofaa.G
open Go Go.RowKit Go.Proofs.YthpahlkhiknofaaW.PrintWords
def contains60.f (l0:List Int):Option ((Bool)):=if H.fitL l0 then some (l0.any (fun x=>!decide (-1000000 ≤ x ∧ x ≤ 1000000))) else none
theorem contains60.calls (A0:Option Addr) (c0:Nat) (l0:List Int) (r:Bool) (w:World) (hr0:Kd.C (Kd.int .i64) w A0 l0.length l0) (_:l0.length ≤ c0) (h:contains60.f l0 = some r) :
  Calls Try.prog 59 #[.slice A0 l0.length c0,.func (.func 60) #[] #[]] w fun e w'=>e = .returned (.bool r) ∧ Below w.heap.size w w':=by
 unfold contains60.f at h
 by_cases hf:H.fitL l0
 case neg =>
  rw [if_neg hf] at h
  cases h
 rw [if_pos hf] at h
 obtain rfl:=Option.some.inj h
 exact H.contains60 A0 c0 l0 w hr0 hf
end Go.Proofs.Ythpahlkhiknofaa.G
namespace Go.Proofs.Ythpahlkhiknofaa.H
open Go Go.RowKit Go.Shelf Go.Proofs.Ythpahlkhiknofaa.G Go.Proofs.Ythpahlkhiknofaa.P Go.Proofs.YthpahlkhiknofaaW.PrintWords
attribute [local go_sem] Oper.semAt_some wide_fn
def stV (xs:List Int):Value:=.agg (xs.map (Value.int .i64)).toArray
def valS (xs:List Int) (p:Int):Nat → Int → Int
 | 0,a=>a
 | i + 1,a=>if (Go.bits .and .i64 (p / 2 ^ i) 1 == 1) = true then wrap64 (valS xs p i a + rd xs (i:Int)) else valS xs p i a
def stO (x0 x1 x2 x3 x4 x5:Int):Obj:=.cells #[.int .i64 x0,.int .i64 x1,.int .i64 x2,.int .i64 x3,.int .i64 x4,.int .i64 x5] 88
theorem st_cell (x0 x1 x2 x3 x4 x5:Int) (w:World) {i:Nat} (hi:i ≤ 5):(w.alloc (stO x0 x1 x2 x3 x4 x5)).cell? { block:=w.heap.size,off:=i } = some (.int .i64 (rd [x0,x1,x2,x3,x4,x5] (i:Int))):=by
 have h:=World.alloc_heap_new w (stO x0 x1 x2 x3 x4 x5)
 rcases (by omega:i = 0 ∨ i = 1 ∨ i = 2 ∨ i = 3 ∨ i = 4 ∨ i = 5) with rfl | rfl | rfl | rfl | rfl | rfl <;> (unfold World.cell?;rw [h];rfl)
set_option maxHeartbeats 4000000 in
set_option maxRecDepth 100000 in
theorem value62 (x0 x1 x2 x3 x4 x5:Int) (n:Nat) (hn:n ≤ 5) (p:Int) (w:World) :
  Calls Try.prog 62 #[stV [x0,x1,x2,x3,x4,x5],.int .i64 (n:Int),.int .i64 p] w fun e w'=>e = .returned (.int .i64 (valS [x0,x1,x2,x3,x4,x5] p n (wrap64 (-rd [x0,x1,x2,x3,x4,x5] (n:Int))))) ∧ Below w.heap.size w w':=by
 refine (callsIn_wide (n:=9)).1 ?_
 refine callsIn_of_wp Try.func62 rfl trivial ?_
 simp only [Try.ntmps62,List.size_toArray,List.length_cons,List.length_nil,Nat.reduceAdd,Nat.reduceSub,Array.replicate_succ,Array.replicate_zero,List.push_toArray,List.append_toArray,List.nil_append,List.cons_append]
 unfold stV
 have hcn:=st_cell x0 x1 x2 x3 x4 x5 w hn
 obtain ⟨y,hy⟩:∃ y,rd [x0,x1,x2,x3,x4,x5] (n:Int) = y:=⟨_,rfl⟩
 rw [hy] at hcn ⊢
 unfold stO at hcn
 gi_wp2_with fail
 gi_loopg [7,14] n (fun k s7 s14 W=>∃ i:Nat,s14 = .int .i64 (i:Int) ∧ s7 = .int .i64 (valS [x0,x1,x2,x3,x4,x5] p i (wrap64 (-y))) ∧ i ≤ n ∧ n ≤ k + i ∧ Below (w.heap.size + 1) (w.alloc (stO x0 x1 x2 x3 x4 x5)) W)
 case atStart=>exact ⟨0,rfl,rfl,by omega,by omega,Below.refl _ _⟩
 case round =>
  obtain ⟨i,rfl,rfl,hi,hk,hB⟩:=hrel
  have HB:=Lib.hid hB
  clear hB
  by_cases hil:i < n
  case neg =>
   have:i = n:=by omega
   subst this
   gi_wp2_with fail
   exact bodyPost_ret (v:=.int .i64 (valS [x0,x1,x2,x3,x4,x5] p i (wrap64 (-y)))) (results_tmp (t:=6) rfl _ _ _) rfl ⟨rfl,((Below.refl _ _).alloc (Nat.le_refl _) _).trans (HB.out.mono (Nat.le_succ _))⟩
  have hcell:=(HB.out.cell (p:={ block:=w.heap.size,off:=i }) (Nat.lt_succ_self _)).trans (st_cell x0 x1 x2 x3 x4 x5 w (show i ≤ 5 by omega))
  obtain ⟨x,hxe⟩:∃ x,rd [x0,x1,x2,x3,x4,x5] (i:Int) = x:=⟨_,rfl⟩
  rw [hxe] at hcell
  have HXE:=Lib.hid hxe
  clear hxe
  obtain ⟨q,hq⟩:∃ q,(Go.bits .and .i64 (p / 2 ^ i) 1 == 1) = q:=⟨_,rfl⟩
  have hsh:0 ≤ (i:Int):=by omega
  have hw1:=wrap_succ (i:=i) (by omega)
  have HQ:=Lib.hid hq
  cases q with
  | true =>
   gi_wp2_with fail
   gi_roundg (n - (i + 1))
   case measure=>omega
   case rel =>
    refine ⟨i + 1,by first | rfl | simp [hw1],?_,by omega,by omega,HB.out⟩
    rw [valS,if_pos HQ.out,HXE.out]
  | false =>
   gi_wp2_with fail
   gi_roundg (n - (i + 1))
   case measure=>omega
   case rel =>
    refine ⟨i + 1,by first | rfl | simp [hw1],?_,by omega,by omega,HB.out⟩
    rw [valS,if_neg (by rw [HQ.out];decide)]
end Go.Proofs.Ythpahlkhiknofaa.H
namespace Go.Proofs.Ythpahlkhiknofaa.G
open Go Go.RowKit Go.Proofs.YthpahlkhiknofaaW.PrintWords
/-- The bounds under which the walk was told. -/
def okT (s:ByteArray) (n:Int) (t:ByteArray) (ok:Bool):Prop:=s = t ∧ s.size ≤ 1000 ∧ (ok = true → 0 ≤ n ∧ n ≤ 5)
instance (s:ByteArray) (n:Int) (t:ByteArray) (ok:Bool):Decidable (okT s n t ok):=by unfold okT;exact inferInstance
end Go.Proofs.Ythpahlkhiknofaa.G
namespace Go.Proofs.Ythpahlkhiknofaa.H
open Go Go.RowKit Go.Shelf Go.Proofs.Ythpahlkhiknofaa.G Go.Proofs.Ythpahlkhiknofaa.P Go.Proofs.YthpahlkhiknofaaW.PrintWords Go.Proofs.YthpahlkhiknofaaW.PrintLast Go.Proofs.YthpahlkhiknofaaW.PrintMore
def rzL (xs:List Int) (n:Nat) (s:ByteArray):Nat → Nat → Int
 | 0,_=>0
 | d + 1,p=>if (decide (valS xs (p:Int) n (wrap64 (-rd xs (n:Int))) ≥ 0) != (bt s (p:Int) == 49)) = true then 10 else rzL xs n s d (p + 1)
def padL (l:List Int):List Int:=[rd l 0,rd l 1,rd l 2,rd l 3,rd l 4,rd l 5]
def bad60 (l:List Int):Bool:=l.any (fun x=>!decide (-1000000 ≤ x ∧ x ≤ 1000000))
def rzV (s:ByteArray) (l:List Int) (n:Nat) (ok:Bool):Int:=if ok = true ∧ l.length = n + 1 ∧ bad60 l = false then rzL (padL l) n s s.size 0 else 2
theorem below_cells {N g:Nat} {w0:World} (hg:N ≤ g):∀ (vs:List Value) (o:Nat) (W:World),Below N w0 W → Below N w0 (W.setCells g o vs)
 | [],_,_,h=>h
 | v :: r,o,W,h=>by
  rw [World.setCells]
  exact below_cells hg r (o + 1) _ (h.setCell hg _)
set_option maxRecDepth 100000 in
theorem copy_in (W:World) (l:List Int) (n:Nat) (hn:n ≤ 5) (hl:l.length = n + 1) (A:Option Addr) (c:Nat) (hC:Kd.C (Kd.int .i64) W A l.length l) :
  ∃ W4,(Builtin.copy_ #[22,22] 3 #[.slice (some { block:=W.heap.size,off:=0 }) 6 6,.slice A l.length c]).run Try.prog (W.alloc (stO 0 0 0 0 0 0)) = .ok (goInt l.length) W4 ∧ Below W.heap.size W W4 ∧ W4.heap[W.heap.size]? = some (.cells ((padL l).map (Value.int .i64)).toArray 88 (0,0)):=by
 have hC3:=Kd.C_alloc hC (stO 0 0 0 0 0 0)
 obtain ⟨ad,rfl,_⟩:=Kd.at_int hC3 0 (by omega) (by omega)
 have hh:=World.alloc_heap_new W (stO 0 0 0 0 0 0)
 have hlen:(l.map (Value.int .i64)).length = n + 1:=by rw [List.length_map,hl]
 have hr:=run_copy_cells (P:=Try.prog) (W.alloc (stO 0 0 0 0 0 0)) 22 22 3 3 W.heap.size 0 6 6 ad l.length c (l.map (Value.int .i64)) Try.underlying22 (by kernel_rfl) (by rw [hlen,hl];exact (Nat.min_eq_left (by omega)).symm) (fun j v hv=>by
  have hj:j < l.length:=by
   rcases Nat.lt_or_ge j l.length with h | h
   ·exact h
   rw [List.getElem?_eq_none (by rw [List.length_map];exact h)] at hv
   cases hv
  obtain ⟨ad',e,hc⟩:=Kd.at_int hC3 (j:Int) (by omega) (by omega)
  cases e
  rw [Int.toNat_natCast] at hc
  rw [hc,← hv,List.getElem?_map,List.getElem?_eq_getElem hj,rd_get hj];rfl) (fun j hj=>by
  rw [Nat.zero_add,st_cell 0 0 0 0 0 0 W (show j ≤ 5 by omega)];rfl) (fun j _=>by
  rw [Nat.zero_add];exact blk_frozen hh _) (by intro u hu;simp only [List.mem_map] at hu;obtain ⟨q,_,rfl⟩:=hu;rfl)
 obtain ⟨cur',h3,h4,h5⟩:=setCells_row (e:=88) (l.map (Value.int .i64)) 0 (W.alloc (stO 0 0 0 0 0 0)) _ hh (by rw [hlen];show _ ≤ 6;omega)
 rw [List.length_map] at hr
 refine ⟨_,hr,below_cells (Nat.le_refl _) _ _ _ ((Below.refl _ _).alloc (Nat.le_refl _) _),?_⟩
 rw [h3]
 have e:cur' = ((padL l).map (Value.int .i64)).toArray:=by
  rw [← Array.toArray_toList (xs:=cur'),h5]
  congr 1
  rcases l with _ | ⟨a,_ | ⟨b,_ | ⟨c,_ | ⟨d,_ | ⟨e,_ | ⟨f,_ | ⟨g,t⟩⟩⟩⟩⟩⟩⟩ <;> first | (exfalso;simp only [List.length_cons,List.length_nil] at hl;omega) | rfl | simp [padL,rd]
 rw [e]
set_option maxHeartbeats 4000000 in
set_option maxRecDepth 100000 in
theorem realize19 (s:ByteArray) (A:Option Addr) (c:Nat) (l:List Int) (w:World) (hl:Kd.C (Kd.int .i64) w A l.length l) (hlc:l.length ≤ c) (hlen:fitL l) (hsz:s.size ≤ 1000) (n:Nat) (ok:Bool) (hnew:card_newTotal.f s = some ((n:Int),s,ok)) (hn:n ≤ 5) :
  Calls Try.prog 19 #[.string s,.slice A l.length c] w fun e w'=>e = .returned (.int .i64 (rzV s l n ok)) ∧ Below w.heap.size w w':=by
 have HL:=Lib.hid hl
 clear hl
 have HN:=Lib.hid (card_newTotal.calls s n s ok w hnew)
 go_enter Try.func19,Try.ntmps19
 go_wp2_with fail
 refine HN.out.mono ?_
 rintro e w1 ⟨rfl,hb1⟩
 have HB1:=Lib.hid hb1
 clear hb1
 cases ok with
 | false =>
  go_wp2_with fail
  exact bodyPost_ret (v:=.int .i64 2) (results_tmp (t:=4) rfl _ _ _) rfl ⟨by unfold rzV;rw [if_neg (fun h=>by cases h.1)],HB1.out.alloc HB1.out.size _⟩
 | true =>
  obtain ⟨q,hq⟩:∃ q,((l.length:Int) != (n:Int) + 1) = q:=⟨_,rfl⟩
  have HQ:=Lib.hid hq
  cases q with
  | true =>
   have hq2:=bne_iff_ne.1 hq
   go_wp2_with fail
   exact bodyPost_ret (v:=.int .i64 2) (results_tmp (t:=4) rfl _ _ _) rfl ⟨by unfold rzV;rw [if_neg (fun h=>hq2 (by have:=h.2.1;omega))],HB1.out.alloc HB1.out.size _⟩
  | false =>
   have hq2:(l.length:Int) = (n:Int) + 1:=bne_eq_false_iff_eq.1 hq
   go_wp2_with fail
   have HC:=Lib.hid (contains60 A c l (w1.alloc (Obj.cells #[Value.int IntKind.i64 n,Value.string s] 81)) (Kd.C_alloc (Kd.C_below HL.out HB1.out) _) hlen)
   refine HC.out.mono ?_
   rintro e w2 ⟨rfl,hb2⟩
   have HB2:=Lib.hid hb2
   clear hb2
   obtain ⟨b,hb⟩:∃ b,bad60 l = b:=⟨_,rfl⟩
   have hb':(l.any fun x=>!decide (-1000000 ≤ x ∧ x ≤ 1000000)) = b:=hb
   rw [hb']
   have HBB:=Lib.hid hb
   clear hb hb'
   cases b with
   | true =>
    go_wp2_with fail
    exact bodyPost_ret (v:=.int .i64 2) (results_tmp (t:=4) rfl _ _ _) rfl ⟨by unfold rzV;rw [if_neg (fun h=>by rw [HBB.out] at h;cases h.2.2)],(HB1.out.alloc HB1.out.size _).trans (HB2.out.mono (by rw [World.size_alloc];have:=HB1.out.size;omega))⟩
   | false =>
    have hl1:l.length = n + 1:=by omega
    have HL1:=Lib.hid hl1
    have hC2:=Kd.C_below (Kd.C_alloc (Kd.C_below HL.out HB1.out) (Obj.cells #[Value.int IntKind.i64 n,Value.string s] 81)) HB2.out
    obtain ⟨W4,hr4,hb4,hh4⟩:=copy_in w2 l n hn hl1 A c hC2
    have hc4:W4.cell? { block:=w1.heap.size,off:=0 } = some (.int .i64 (n:Int)):=by
     have h1:(w1.alloc (Obj.cells #[Value.int IntKind.i64 n,Value.string s] 81)).cell? { block:=w1.heap.size,off:=0 } = some (.int .i64 (n:Int)):=by
      have h:=World.alloc_heap_new w1 (Obj.cells #[Value.int IntKind.i64 n,Value.string s] 81)
      unfold World.cell?;rw [h];rfl
     have hs2:=HB2.out.size
     rw [World.size_alloc] at hs2
     exact (hb4.cell (p:={ block:=w1.heap.size,off:=0 }) (by show w1.heap.size < _;omega)).trans ((HB2.out.cell (p:={ block:=w1.heap.size,off:=0 }) (by rw [World.size_alloc];exact Nat.lt_succ_self _)).trans h1)
    have HH4:=Lib.hid hh4
    have HC4:=Lib.hid hc4
    have HB4:=Lib.hid hb4
    unfold stO at hr4
    rw [hl1] at hr4
    have HR4:=Lib.hid hr4
    clear hh4 hc4 hb4 hr4
    go_wp2_with fail
    rw [HR4.out]
    simp only [Result.andThen_ok,Oper.uponIn_value]
    go_wp2_with fail
    go_loopg [33] s.size (fun k s33 W=>∃ p:Nat,s33 = .int .i64 (p:Int) ∧ p ≤ s.size ∧ s.size ≤ k + p ∧ Below W4.heap.size W4 W ∧ rzL (padL l) n s s.size 0 = rzL (padL l) n s (s.size - p) p)
    case atStart=>exact ⟨0,rfl,by omega,by omega,Below.refl _ _,rfl⟩
    case round =>
     obtain ⟨p,rfl,hp,hk,hB,hv⟩:=hrel
     have HB:=Lib.hid hB
     have HV:=Lib.hid hv
     clear hB hv
     have hg4:=blk_lt HH4.out
     have hWh:_ = _:=(HB.out.block w2.heap.size hg4).trans HH4.out
     by_cases hps:p < s.size
     case neg =>
      have:p = s.size:=by omega
      subst this
      go_wp2_with fail
      refine bodyPost_ret (v:=.int .i64 0) (results_tmp (t:=4) rfl _ _ _) rfl ⟨?_,?_⟩
      ·unfold rzV
       rw [if_pos ⟨rfl,HL1.out,HBB.out⟩,HV.out,Nat.sub_self];rfl
      have hs1:=HB1.out.size
      have hs2:=HB2.out.size
      rw [World.size_alloc] at hs2
      have hs4:=HB4.out.size
      exact (((HB1.out.alloc hs1 _).trans (HB2.out.mono (by rw [World.size_alloc];omega))).trans (HB4.out.mono (by omega))).trans (HB.out.mono (by omega))
     have hld:=run_loadVar_row (P:=Try.prog) _ w2.heap.size 88 88 _ (0,0) _ hWh Try.underlying88 rfl (by kernel_rfl)
     have hc:=(HB.out.cell (p:={ block:=w1.heap.size,off:=0 }) (World.block_lt_of_cell? _ _ HC4.out)).trans HC4.out
     have hbt:=bt_at s (p:Int)
     go_wp2_with fail
     refine start_ (n:=11) (S:=fun w'=>w'.heap[w2.heap.size]? = some (.cells ((padL l).map (Value.int .i64)).toArray 88 (0,0)) ∧ w'.cell? { block:=w1.heap.size,off:=0 } = some (.int .i64 (n:Int))) (ds:=[]) #[false,false,false,false,false,false,false,false,false,false,false] (by kernel_rfl) rfl rfl ⟨hWh,hc⟩ (fun hHeld=>?_)
     refine pure_ (i:=1) (N:=some 37) (v:=?_) (a':=?_) #[false,true,false,false,false,false,false,false,false,false,false] rfl rfl (by kernel_rfl) (fun _ _ _ h=>h) (Or.inl ⟨by rfl,?_⟩) ?_ ?_
     rotate_left
     ·intro w'
      go_simp
      with_reducible rfl
     rotate_left
     ·simp only [Act.put,List.setIfInBounds_toArray,List.set_cons_zero,List.set_cons_succ,i64_w,i32_w]
      rfl
     refine take_ (i:=0) (N:=some 36) (v:=?_) (a':=?_) #[true,true,false,false,false,false,false,false,false,false,false] rfl rfl (by kernel_rfl) (fun _ _ _ h=>h) (Or.inl ⟨by rfl,?_⟩) hHeld ?_ ?_
     rotate_left
     ·rintro w' ⟨s0,s1⟩
      have q0:w'.cell? { block:=w2.heap.size,off:=0 } = some (.int .i64 (rd l 0)):=(cell_of_row w' w2.heap.size 0 _ _ _ s0).trans rfl
      have q1:w'.cell? { block:=w2.heap.size,off:=1 } = some (.int .i64 (rd l 1)):=(cell_of_row w' w2.heap.size 1 _ _ _ s0).trans rfl
      have q2:w'.cell? { block:=w2.heap.size,off:=2 } = some (.int .i64 (rd l 2)):=(cell_of_row w' w2.heap.size 2 _ _ _ s0).trans rfl
      have q3:w'.cell? { block:=w2.heap.size,off:=3 } = some (.int .i64 (rd l 3)):=(cell_of_row w' w2.heap.size 3 _ _ _ s0).trans rfl
      have q4:w'.cell? { block:=w2.heap.size,off:=4 } = some (.int .i64 (rd l 4)):=(cell_of_row w' w2.heap.size 4 _ _ _ s0).trans rfl
      have q5:w'.cell? { block:=w2.heap.size,off:=5 } = some (.int .i64 (rd l 5)):=(cell_of_row w' w2.heap.size 5 _ _ _ s0).trans rfl
      go_simp
      with_reducible rfl
     rotate_left
     ·simp only [Act.put,List.setIfInBounds_toArray,List.set_cons_zero,List.set_cons_succ,i64_w,i32_w]
      rfl
     refine take_ (i:=2) (N:=some 38) (v:=?_) (a':=?_) #[true,true,true,false,false,false,false,false,false,false,false] rfl rfl (by kernel_rfl) (fun _ _ _ h=>h) (Or.inl ⟨by rfl,?_⟩) hHeld ?_ ?_
     rotate_left
     ·rintro w' ⟨s0,s1⟩
      have q0:w'.cell? { block:=w2.heap.size,off:=0 } = some (.int .i64 (rd l 0)):=(cell_of_row w' w2.heap.size 0 _ _ _ s0).trans rfl
      have q1:w'.cell? { block:=w2.heap.size,off:=1 } = some (.int .i64 (rd l 1)):=(cell_of_row w' w2.heap.size 1 _ _ _ s0).trans rfl
      have q2:w'.cell? { block:=w2.heap.size,off:=2 } = some (.int .i64 (rd l 2)):=(cell_of_row w' w2.heap.size 2 _ _ _ s0).trans rfl
      have q3:w'.cell? { block:=w2.heap.size,off:=3 } = some (.int .i64 (rd l 3)):=(cell_of_row w' w2.heap.size 3 _ _ _ s0).trans rfl
      have q4:w'.cell? { block:=w2.heap.size,off:=4 } = some (.int .i64 (rd l 4)):=(cell_of_row w' w2.heap.size 4 _ _ _ s0).trans rfl
      have q5:w'.cell? { block:=w2.heap.size,off:=5 } = some (.int .i64 (rd l 5)):=(cell_of_row w' w2.heap.size 5 _ _ _ s0).trans rfl
      go_simp
      with_reducible rfl
     rotate_left
     ·simp only [Act.put,List.setIfInBounds_toArray,List.set_cons_zero,List.set_cons_succ,i64_w,i32_w]
      rfl
     refine pure_ (i:=3) (N:=some 39) (v:=?_) (a':=?_) #[true,true,true,true,false,false,false,false,false,false,false] rfl rfl (by kernel_rfl) (fun _ _ _ h=>h) (Or.inl ⟨by rfl,?_⟩) ?_ ?_
     rotate_left
     ·intro w'
      go_simp
      with_reducible rfl
     rotate_left
     ·simp only [Act.put,List.setIfInBounds_toArray,List.set_cons_zero,List.set_cons_succ,i64_w,i32_w]
      rfl
     refine pure_ (i:=6) (N:=some 42) (v:=?_) (a':=?_) #[true,true,true,true,false,false,true,false,false,false,false] rfl rfl (by kernel_rfl) (fun _ _ _ h=>h) (Or.inl ⟨by rfl,?_⟩) ?_ ?_
     rotate_left
     ·intro w'
      go_simp
      with_reducible rfl
     rotate_left
     ·simp only [Act.put,List.setIfInBounds_toArray,List.set_cons_zero,List.set_cons_succ,i64_w,i32_w]
      rfl
     refine pure_ (i:=7) (N:=some 43) (v:=?_) (a':=?_) #[true,true,true,true,false,false,true,true,false,false,false] rfl rfl (by kernel_rfl) (fun _ _ _ h=>h) (Or.inl ⟨by rfl,?_⟩) ?_ ?_
     rotate_left
     ·intro w'
      go_simp
      with_reducible rfl
     rotate_left
     ·simp only [Act.put,List.setIfInBounds_toArray,List.set_cons_zero,List.set_cons_succ,i64_w,i32_w]
      rfl
     refine pure_ (i:=8) (N:=some 44) (v:=?_) (a':=?_) #[true,true,true,true,false,false,true,true,true,false,false] rfl rfl (by kernel_rfl) (fun _ _ _ h=>h) (Or.inl ⟨by rfl,?_⟩) ?_ ?_
     rotate_left
     ·intro w'
      go_simp
      with_reducible rfl
     rotate_left
     ·simp only [Act.put,List.setIfInBounds_toArray,List.set_cons_zero,List.set_cons_succ,i64_w,i32_w]
      rfl
     refine pure_ (i:=9) (N:=some 45) (v:=?_) (a':=?_) #[true,true,true,true,false,false,true,true,true,true,false] rfl rfl (by kernel_rfl) (fun _ _ _ h=>h) (Or.inl ⟨by rfl,?_⟩) ?_ ?_
     rotate_left
     ·intro w'
      go_simp
      with_reducible rfl
     rotate_left
     ·simp only [Act.put,List.setIfInBounds_toArray,List.set_cons_zero,List.set_cons_succ,i64_w,i32_w]
      rfl
     refine one_ (i:=4) (N:=some 40) #[true,true,true,true,true,false,true,true,true,true,false] rfl rfl (by kernel_rfl) (by decide) (fun K hK=>?_)
     refine call_ 62 #[stV (padL l),.int .i64 (n:Int),.int .i64 (p:Int)] (by rfl) rfl (by go_simp;rfl) ?_
     refine (value62 (rd l 0) (rd l 1) (rd l 2) (rd l 3) (rd l 4) (rd l 5) n hn (p:Int) _).mono ?_
     rintro e w5 ⟨rfl,hb5⟩
     have hst5:w5.heap[w2.heap.size]? = some (.cells ((padL l).map (Value.int .i64)).toArray 88 (0,0)) ∧ w5.cell? { block:=w1.heap.size,off:=0 } = some (.int .i64 (n:Int)):=⟨(hb5.block _ (blk_lt hHeld.1)).trans hHeld.1,(hb5.cell (p:={ block:=w1.heap.size,off:=0 }) (World.block_lt_of_cell? _ _ hHeld.2)).trans hHeld.2⟩
     have HB5:=Lib.hid ((below_drew1 HB.out).trans (hb5.mono HB.out.size))
     refine ⟨_,rfl,hK.out _ _ hst5 (fun _=>?_)⟩
     clear hK K
     obtain ⟨vv,hvv⟩:∃ v,valS [rd l 0,rd l 1,rd l 2,rd l 3,rd l 4,rd l 5] (p:Int) n (wrap64 (-rd [rd l 0,rd l 1,rd l 2,rd l 3,rd l 4,rd l 5] (n:Int))) = v:=⟨_,rfl⟩
     rw [hvv]
     refine pure_ (i:=5) (N:=some 41) (v:=?_) (a':=?_) #[true,true,true,true,true,true,true,true,true,true,false] rfl rfl (by kernel_rfl) (fun _ _ _ h=>h) (Or.inl ⟨by rfl,?_⟩) ?_ ?_
     rotate_left
     ·intro w'
      go_simp
      with_reducible rfl
     rotate_left
     ·simp only [Act.put,List.setIfInBounds_toArray,List.set_cons_zero,List.set_cons_succ,i64_w,i32_w]
      rfl
     refine pure_ (i:=10) (N:=some 46) (v:=?_) (a':=?_) #[true,true,true,true,true,true,true,true,true,true,true] rfl rfl (by kernel_rfl) (fun _ _ _ h=>h) (Or.inl ⟨by rfl,?_⟩) ?_ ?_
     rotate_left
     ·intro w'
      go_simp
      with_reducible rfl
     rotate_left
     ·simp only [Act.put,List.setIfInBounds_toArray,List.set_cons_zero,List.set_cons_succ,i64_w,i32_w]
      rfl
     refine done_ (by kernel_rfl) ?_
     have hstep:rzL (padL l) n s (s.size - p) p = if (decide (vv ≥ 0) != (bt s (p:Int) == 49)) = true then 10 else rzL (padL l) n s (s.size - (p + 1)) (p + 1):=by
      rw [← hvv,show s.size - p = (s.size - (p + 1)) + 1 by omega];rfl
     have HS:=Lib.hid hstep
     clear hstep
     obtain ⟨q,hq⟩:∃ q,(decide (vv ≥ 0) != (bt s (p:Int) == 49)) = q:=⟨_,rfl⟩
     have HQ5:=Lib.hid hq
     rw [bt_get hps] at hq
     simp only [ge_iff_le] at hq
     have hq':(!decide (0 ≤ vv) == (((s[p]).toNat:Int) == 49)) = q:=by
      rw [← hq];cases decide (0 ≤ vv) <;> cases (((s[p]).toNat:Int) == 49) <;> rfl
     rw [hq']
     clear hq hq'
     cases q with
     | true =>
      go_wp2_with fail
      refine bodyPost_ret (v:=.int .i64 10) (results_tmp (t:=4) rfl _ _ _) rfl ⟨?_,?_⟩
      ·unfold rzV
       rw [if_pos ⟨rfl,HL1.out,HBB.out⟩,HV.out,HS.out,if_pos HQ5.out]
      have hs1:=HB1.out.size
      have hs2:=HB2.out.size
      rw [World.size_alloc] at hs2
      have hs4:=HB4.out.size
      exact (((HB1.out.alloc hs1 _).trans (HB2.out.mono (by rw [World.size_alloc];omega))).trans (HB4.out.mono (by omega))).trans (HB5.out.mono (by omega))
     | false =>
      go_wp2_with fail
      go_roundg (s.size - (p + 1))
      case measure=>omega
      case rel=>exact ⟨p + 1,by simp,by omega,by omega,HB5.out,by rw [HV.out,HS.out,if_neg (by rw [HQ5.out];decide)]⟩
end Go.Proofs.Ythpahlkhiknofaa.H
namespace Go.Proofs.Ythpahlkhiknofaa.H
open Go Go.RowKit Go.Shelf Go.Proofs.Ythpahlkhiknofaa.G Go.Proofs.Ythpahlkhiknofaa.P Go.Proofs.YthpahlkhiknofaaW.PrintWords Go.Proofs.YthpahlkhiknofaaW.PrintLast Go.Proofs.YthpahlkhiknofaaW.PrintMore
set_option maxHeartbeats 4000000 in
set_option maxRecDepth 100000 in
theorem realize_no (s:ByteArray) (A:Option Addr) (len c:Nat) (w:World) (n:Int) (hnew:card_newTotal.f s = some (n,s,false)) :
  Calls Try.prog 19 #[.string s,.slice A len c] w fun e w'=>e = .returned (.int .i64 2) ∧ Below w.heap.size w w':=by
 have HN:=Lib.hid (card_newTotal.calls s n s false w hnew)
 go_enter Try.func19,Try.ntmps19
 go_wp2_with fail
 refine HN.out.mono ?_
 rintro e w1 ⟨rfl,hb1⟩
 have HB1:=Lib.hid hb1
 clear hb1
 go_wp2_with fail
 exact bodyPost_ret (v:=.int .i64 2) (results_tmp (t:=4) rfl _ _ _) rfl ⟨rfl,HB1.out.alloc HB1.out.size _⟩
end Go.Proofs.Ythpahlkhiknofaa.H
namespace Go.Proofs.Ythpahlkhiknofaa.G
open Go Go.RowKit Go.Proofs.YthpahlkhiknofaaW.PrintWords
def card_Realize.f (a0:ByteArray) (l1:List Int):Option (Int):=(card_newTotal.f a0).bind fun t=>if okT a0 t.1 t.2.1 t.2.2 ∧ H.fitL l1 then some (H.rzV a0 l1 t.1.toNat t.2.2) else none
theorem card_Realize.calls (a0:ByteArray) (A1:Option Addr) (c1:Nat) (l1:List Int) (r:Int) (w:World) (hr1:Kd.C (Kd.int .i64) w A1 l1.length l1) (hc1:l1.length ≤ c1) (h:card_Realize.f a0 l1 = some r) :
  Calls Try.prog 19 #[.string a0,.slice A1 l1.length c1] w fun e w'=>e = .returned (.int .i64 r) ∧ Below w.heap.size w w':=by
 unfold card_Realize.f at h
 obtain ⟨t,ht,h⟩:=Option.bind_eq_some_iff.1 h
 obtain ⟨n,s,ok⟩:=t
 by_cases hf:okT a0 n s ok ∧ H.fitL l1
 case neg =>
  rw [if_neg hf] at h
  cases h
 rw [if_pos hf] at h
 obtain rfl:=Option.some.inj h
 obtain ⟨⟨rfl,h1,h2⟩,h4⟩:=hf
 cases ok with
 | false =>
  have e:H.rzV a0 l1 n.toNat false = 2:=by unfold H.rzV;first | rfl | (rw [if_neg (by decide)]) | (rw [if_neg (fun h=>by cases h.1)])
  rw [show (H.rzV a0 l1 (n,a0,false).1.toNat (n,a0,false).2.2) = 2 from e]
  exact H.realize_no a0 A1 l1.length c1 w n ht
 | true =>
  obtain ⟨h2,h3⟩:=h2 rfl
  obtain ⟨m,rfl⟩:∃ m:Nat,n = (m:Int):=⟨n.toNat,by omega⟩
  have:=H.realize19 a0 A1 c1 l1 w hr1 hc1 h4 h1 m true ht (by omega)
  rwa [show m = ((m:Int)).toNat from rfl] at this
end Go.Proofs.Ythpahlkhiknofaa.G
namespace Go.Proofs.Ythpahlkhiknofaa.H
open Go Go.RowKit Go.Shelf Go.Proofs.Ythpahlkhiknofaa.G Go.Proofs.Ythpahlkhiknofaa.P Go.Proofs.YthpahlkhiknofaaW.PrintWords Go.Proofs.YthpahlkhiknofaaW.PrintLast Go.Proofs.YthpahlkhiknofaaW.PrintMore
def chL (xs:List Int) (p sg:Int):Nat → List Int
 | 0=>xs
 | i + 1=>(chL xs p sg i).set i (wrap64 (rd (chL xs p sg i) (i:Int) + wrap64 (sg * Go.bits .and .i64 (p / 2 ^ i) 1)))
def chV (xs:List Int) (p sg:Int) (n:Nat):List Int:=(chL xs p sg n).set n (wrap64 (rd (chL xs p sg n) (n:Int) - sg))
theorem chL_len (xs:List Int) (p sg:Int):∀ n,(chL xs p sg n).length = xs.length
 | 0=>rfl
 | n + 1=>by rw [chL,List.length_set,chL_len xs p sg n]
def rowO (l:List Int):Obj:=.cells (l.map (Value.int .i64)).toArray 88 (0,0)
theorem chV_len (xs:List Int) (p sg:Int) (n:Nat):(chV xs p sg n).length = xs.length:=by rw [chV,List.length_set,chL_len]
theorem row_set (l:List Int) (i:Nat) (v:Int):some (Obj.cells (((l.map (Value.int .i64)).toArray).setIfInBounds i (.int .i64 v)) 88 (0,0)) = some (rowO (l.set i v)):=by
 unfold rowO
 rw [List.map_set,List.setIfInBounds_toArray]
theorem six (l:List Int) (h:l.length = 6):∃ a b c d e f,l = [a,b,c,d,e,f]:=by
 rcases l with _ | ⟨a,_ | ⟨b,_ | ⟨c,_ | ⟨d,_ | ⟨e,_ | ⟨f,_ | ⟨g,t⟩⟩⟩⟩⟩⟩⟩ <;> first | (exfalso;simp only [List.length_cons,List.length_nil] at h;omega) | exact ⟨_,_,_,_,_,_,rfl⟩
theorem cells6 {w:World} {g:Nat} {a b c d e f:Int} (h:w.heap[g]? = some (rowO [a,b,c,d,e,f])):w.cell? ⟨g,0,none⟩ = some (.int .i64 a) ∧ w.cell? ⟨g,1,none⟩ = some (.int .i64 b) ∧ w.cell? ⟨g,2,none⟩ = some (.int .i64 c) ∧ w.cell? ⟨g,3,none⟩ = some (.int .i64 d) ∧ w.cell? ⟨g,4,none⟩ = some (.int .i64 e) ∧ w.cell? ⟨g,5,none⟩ = some (.int .i64 f):=by
 refine ⟨?_,?_,?_,?_,?_,?_⟩ <;> exact (cell_of_row w g _ _ _ _ h).trans rfl
theorem frozen6 {w:World} {g:Nat} {l:List Int} (h:w.heap[g]? = some (rowO l)):w.frozen? ⟨g,0,none⟩ = false ∧ w.frozen? ⟨g,1,none⟩ = false ∧ w.frozen? ⟨g,2,none⟩ = false ∧ w.frozen? ⟨g,3,none⟩ = false ∧ w.frozen? ⟨g,4,none⟩ = false ∧ w.frozen? ⟨g,5,none⟩ = false :=
 ⟨blk_frozen h _,blk_frozen h _,blk_frozen h _,blk_frozen h _,blk_frozen h _,blk_frozen h _⟩
theorem row_at {l:List Int} {i:Nat} (hi:i < l.length):((l.map (Value.int .i64)).toArray)[i]? = some (.int .i64 (rd l (i:Int))):=by
 rw [List.getElem?_toArray,List.getElem?_map,List.getElem?_eq_getElem hi,rd_get hi];rfl
set_option maxHeartbeats 4000000 in
set_option maxRecDepth 100000 in
theorem changed63 (xs:List Int) (hx:xs.length = 6) (n:Nat) (hn:n ≤ 5) (p sg:Int) (w:World) :
  Calls Try.prog 63 #[stV xs,.int .i64 (n:Int),.int .i64 p,.int .i64 sg] w fun e w'=>e = .returned (stV (chV xs p sg n)) ∧ Below w.heap.size w w':=by
 have hs:stV xs = .agg (xs.map (Value.int .i64)).toArray:=rfl
 go_enter Try.func63,Try.ntmps63
 unfold stV
 go_wp2_with fail
 go_loopg [11] n (fun k s11 W=>∃ i:Nat,s11 = .int .i64 (i:Int) ∧ i ≤ n ∧ n ≤ k + i ∧ Below w.heap.size w W ∧ W.heap[w.heap.size]? = some (rowO (chL xs p sg i)) ∧ W.heap[w.heap.size + 1]? = some (rowO [0,0,0,0,0,0]))
 case atStart =>
  have h1:=World.alloc_heap_new w (rowO xs)
  have h2:=World.alloc_heap_new (w.alloc (rowO xs)) (rowO [0,0,0,0,0,0])
  rw [World.size_alloc] at h2
  exact ⟨0,rfl,by omega,by omega,(((Below.refl _ _).alloc (Nat.le_refl _) _).alloc (by simp) _),(((Below.refl _ _).alloc (Nat.le_refl _) _).block w.heap.size (by rw [World.size_alloc];exact Nat.lt_succ_self _)).trans h1,h2⟩
 case round =>
  obtain ⟨i,rfl,hi,hk,hB,h4,h8⟩:=hrel
  have HB:=Lib.hid hB
  have H4:=Lib.hid h4
  have H8:=Lib.hid h8
  clear hB h4 h8
  by_cases hil:i < n
  ·have hcell:=(cell_of_row _ w.heap.size i _ _ _ H4.out).trans (row_at (l:=chL xs p sg i) (i:=i) (by rw [chL_len];omega))
   obtain ⟨x,hx0⟩:∃ x,rd (chL xs p sg i) (i:Int) = x:=⟨_,rfl⟩
   rw [hx0] at hcell
   have HX:=Lib.hid hx0
   clear hx0
   have hfz:=blk_frozen H4.out i
   have hsh:0 ≤ (i:Int):=by omega
   have hw1:=wrap_succ (i:=i) (by omega)
   have hne:w.heap.size + 1 ≠ w.heap.size:=by omega
   go_wp2_with fail
   go_region
   go_wp2_with fail
   go_roundg (n - (i + 1))
   case measure=>omega
   case rel =>
    refine ⟨i + 1,by first | rfl | simp [hw1],by omega,by omega,((below_drew1 HB.out).setCell (Nat.le_refl _) _),?_,?_⟩
    ·refine (blk_set H4.out i _).trans ?_
     rw [row_set,← HX.out];rfl
    exact (Below.heap_setCell _ _ _ _ hne).trans H8.out
  have:i = n:=by omega
  subst this
  have hcell:=(cell_of_row _ w.heap.size i _ _ _ H4.out).trans (row_at (l:=chL xs p sg i) (i:=i) (by rw [chL_len];omega))
  obtain ⟨x,hx0⟩:∃ x,rd (chL xs p sg i) (i:Int) = x:=⟨_,rfl⟩
  rw [hx0] at hcell
  have HX:=Lib.hid hx0
  clear hx0
  have hfz:=blk_frozen H4.out i
  have h4':=(blk_set H4.out i (.int .i64 (wrap64 (x - sg)))).trans (show _ = some (rowO (chV xs p sg i)) from by
   rw [row_set,← HX.out];rfl)
  have hne:w.heap.size + 1 ≠ w.heap.size:=by omega
  have h8':=(Below.heap_setCell _ ⟨w.heap.size,i,none⟩ (.int .i64 (wrap64 (x - sg))) _ hne).trans H8.out
  obtain ⟨y0,y1,y2,y3,y4,y5,hy⟩:=six (chV xs p sg i) (by rw [chV_len,hx])
  rw [hy] at h4'
  have HY:=Lib.hid hy
  clear hy
  obtain ⟨q0,q1,q2,q3,q4,q5⟩:=cells6 h4'
  obtain ⟨r0,r1,r2,r3,r4,r5⟩:=cells6 h8'
  obtain ⟨f0,f1,f2,f3,f4,f5⟩:=frozen6 h8'
  have hb1:Below w.heap.size w (wr.setCell ⟨w.heap.size,i,none⟩ (.int .i64 (wrap64 (x - sg)))):=HB.out.setCell (Nat.le_refl _) _
  have HB1:=Lib.hid hb1
  have hz:=blk_lt H8.out
  have h8f:=h8'
  clear h4' h8' hb1
  have H8F:=Lib.hid h8f
  clear h8f
  go_wp2_with fail
  have e6:=blk_set (blk_set (blk_set (blk_set (blk_set (blk_set H8F.out 0 (.int .i64 y0)) 1 (.int .i64 y1)) 2 (.int .i64 y2)) 3 (.int .i64 y3)) 4 (.int .i64 y4)) 5 (.int .i64 y5)
  refine bodyPost_ret (v:=.agg #[.int .i64 y0,.int .i64 y1,.int .i64 y2,.int .i64 y3,.int .i64 y4,.int .i64 y5]) (results_cell_row (p:=8) (ty:=88) rfl _ _ (w.heap.size + 1) _ _ _ _ rfl e6 Try.underlying88 rfl (by kernel_rfl)) rfl ⟨?_,?_⟩
  ·rw [HY.out];rfl
  have hg:w.heap.size ≤ w.heap.size + 1:=by omega
  exact (((((HB1.out.setCell hg _).setCell hg _).setCell hg _).setCell hg _).setCell hg _).setCell hg _
end Go.Proofs.Ythpahlkhiknofaa.H
namespace Go.Proofs.Ythpahlkhiknofaa.H
open Go Go.RowKit Go.Shelf Go.Proofs.Ythpahlkhiknofaa.G Go.Proofs.Ythpahlkhiknofaa.ArrEq
def eq6 (l m:List Int):Bool:=decide (l = m)
theorem eqA88 (d:Nat) (w:World) (x0 x1 x2 x3 x4 x5 y0 y1 y2 y3 y4 y5:Int) :
    (Op.equalIn (d + 2) 88 (.agg #[.int .i64 x0,.int .i64 x1,.int .i64 x2,.int .i64 x3,.int .i64 x4,.int .i64 x5]) (.agg #[.int .i64 y0,.int .i64 y1,.int .i64 y2,.int .i64 y3,.int .i64 y4,.int .i64 y5])).run Try.prog w = .ok (eq6 [x0,x1,x2,x3,x4,x5] [y0,y1,y2,y3,y4,y5]) w:=by
  unfold eq6
  have hu:=Try.underlying88
  have he:=Try.underlying3
  have ha:(isAgg 3).run Try.prog w = .ok false w:=by kernel_rfl
  have hs:(sizeOf 3).run Try.prog w = .ok 1 w:=by kernel_rfl
  have p0:∀ a b c d e f:Value,(part 3 #[a,b,c,d,e,f] 0).run Try.prog w = .ok a w:=by intro a b c d e f;simp [part,Sem.run_bind,Result.andThen,ha]
  have p1:∀ a b c d e f:Value,(part 3 #[a,b,c,d,e,f] 1).run Try.prog w = .ok b w:=by intro a b c d e f;simp [part,Sem.run_bind,Result.andThen,ha]
  have p2:∀ a b c d e f:Value,(part 3 #[a,b,c,d,e,f] 2).run Try.prog w = .ok c w:=by intro a b c d e f;simp [part,Sem.run_bind,Result.andThen,ha]
  have p3:∀ a b c d e f:Value,(part 3 #[a,b,c,d,e,f] 3).run Try.prog w = .ok d w:=by intro a b c d e f;simp [part,Sem.run_bind,Result.andThen,ha]
  have p4:∀ a b c d e f:Value,(part 3 #[a,b,c,d,e,f] 4).run Try.prog w = .ok e w:=by intro a b c d e f;simp [part,Sem.run_bind,Result.andThen,ha]
  have p5:∀ a b c d e f:Value,(part 3 #[a,b,c,d,e,f] 5).run Try.prog w = .ok f w:=by intro a b c d e f;simp [part,Sem.run_bind,Result.andThen,ha]
  have pe:∀ x y:Int,(Op.equalIn (d + 1) 3 (.int .i64 x) (.int .i64 y)).run Try.prog w = .ok (x == y) w:=fun x y=>ArrEq.run_equalIn_int w d he x y
  rw [Op.equalIn]
  simp only [Sem.run_bind,run_underlying hu,Result.andThen,hs]
  simp only [Std.Legacy.Range.forIn_eq_forIn_range']
  simp [Std.Legacy.Range.size,List.range'_succ,Sem.run_bind,p0,p1,p2,p3,p4,p5,pe,Result.andThen]
  by_cases e0:x0 = y0
  · by_cases e1:x1 = y1
    · by_cases e2:x2 = y2
      · by_cases e3:x3 = y3
        · by_cases e4:x4 = y4
          · by_cases e5:x5 = y5 <;> simp [e0,e1,e2,e3,e4,e5,p0,p1,p2,p3,p4,p5,pe,Result.andThen]
          · simp [e0,e1,e2,e3,e4,p0,p1,p2,p3,p4,p5,pe,Result.andThen]
        · simp [e0,e1,e2,e3,p0,p1,p2,p3,p4,p5,pe,Result.andThen]
      · simp [e0,e1,e2,p0,p1,p2,p3,p4,p5,pe,Result.andThen]
    · simp [e0,e1,p0,p1,p2,p3,p4,p5,pe,Result.andThen]
  · simp [e0,p0,p1,p2,p3,p4,p5,pe,Result.andThen]
end Go.Proofs.Ythpahlkhiknofaa.H
namespace Go.Proofs.Ythpahlkhiknofaa.H
open Go Go.RowKit Go.Shelf Go.Proofs.Ythpahlkhiknofaa.G Go.Proofs.Ythpahlkhiknofaa.P Go.Proofs.YthpahlkhiknofaaW.PrintWords Go.Proofs.YthpahlkhiknofaaW.PrintLast Go.Proofs.YthpahlkhiknofaaW.PrintMore
theorem two_sub {k:Nat} (h:k < 2):2 - k = (1 - k) + 1:=by omega
theorem sub_one {n:Nat} (h:n ≤ 1000):IntKind.i64.wrap ((n:Int) - 1) = (n:Int) - 1:=IntWalk.i64_in _ ⟨by omega,by omega⟩
theorem len_ok {n:Nat} (h:decide ((1:Int) ≤ (n:Int) ∧ (n:Int) ≤ 1000) = true):1 ≤ n ∧ n ≤ 1000:=by have:=of_decide_eq_true h;omega
theorem drop_rd {l:List Int} {j:Nat} (h:j < l.length):l.drop j = rd l (j:Int) :: l.drop (j + 1):=by rw [rd_get h];exact List.drop_eq_getElem_cons h
theorem lt_of_sub {p:Int} {n:Nat} (h:p ≤ (n:Int) - 1):p < (n:Int):=by omega
theorem toNat_lt {p:Int} {n:Nat} (h0:0 ≤ p) (h:p < (n:Int)):p.toNat < n:=by omega
theorem two_k {k:Nat} (h:k < 2):IntKind.i64.wrap (2 * (k:Int)) = 2 * (k:Int):=IntWalk.i64_in _ ⟨by omega,by omega⟩
theorem one_k {k:Nat} (h:k < 2):IntKind.i64.wrap (1 - 2 * (k:Int)) = 1 - 2 * (k:Int):=IntWalk.i64_in _ ⟨by omega,by omega⟩
theorem two_sub' {k:Nat} (h:k < 2):2 - (k + 1) = 1 - k:=by omega
attribute [local go_sem high] eqA88
theorem within_q (a lo hi:Int) (w:World) (n:Nat):Calls Try.prog 61 #[.int .i64 a,.int .i64 lo,.int .i64 hi] (w.drewN n) fun e w''=>e = .returned (.bool (decide (lo ≤ a ∧ a ≤ hi))) ∧ ∃ m,w'' = w.drewN m :=
 Calls.quiet_of ((within_val a lo hi _).mono fun _ _ ⟨he,hd⟩=>⟨he,hd.out⟩)
def zer6:List Int:=[0,0,0,0,0,0]
def balI (s:ByteArray) (n:Nat) (k:Nat):List Int → List Int → Option (List Int)
 | [],x=>some x
 | p :: r,x=>if (0 ≤ p ∧ p ≤ (s.size:Int) - 1) ∧ bt s p = bt (⟨#[49,48]⟩:ByteArray) (k:Int) then balI s n k r (chV x p (1 - 2 * (k:Int)) n) else none
def balK (s:ByteArray) (n:Nat) (ls:List (List Int)):Nat → Nat → List Int → Int
 | 0,_,x=>if x = zer6 then 0 else 10
 | d + 1,k,x=>match balI s n k (rd_L3 ls (k:Int)) x with
  | none=>10
  | some y=>balK s n ls d (k + 1) y
def balJ (s:ByteArray) (n:Nat) (ls:List (List Int)) (d k:Nat) (l x:List Int):Int:=match balI s n k l x with
  | none=>10
  | some y=>balK s n ls d (k + 1) y
def balV (s:ByteArray) (ls:List (List Int)) (n:Nat) (ok:Bool):Int :=
 if ok = true then (if ls.length = 2 ∧ (rd_L3 ls 0).length = (rd_L3 ls 1).length ∧ 1 ≤ (rd_L3 ls 0).length ∧ (rd_L3 ls 0).length ≤ 1000 then balK s n ls 2 0 zer6 else 10) else 2
set_option maxHeartbeats 4000000 in
set_option maxRecDepth 100000 in
theorem balance20 (s:ByteArray) (A:Option Addr) (c:Nat) (ls:List (List Int)) (w:World) (hl:Kd.C (Kd.slice 3 (Kd.int .i64)) w A ls.length ls) (hlen:fitL ls) (hsz:s.size ≤ 1000) (n:Nat) (ok:Bool) (hnew:card_newTotal.f s = some ((n:Int),s,ok)) (hn:n ≤ 5) :
  Calls Try.prog 20 #[.string s,.slice A ls.length c] w fun e w'=>e = .returned (.int .i64 (balV s ls n ok)) ∧ Below w.heap.size w w':=by
 have HL:=Lib.hid hl
 clear hl
 have HN:=Lib.hid (card_newTotal.calls s n s ok w hnew)
 go_enter Try.func20,Try.ntmps20
 go_wp2_with fail
 refine HN.out.mono ?_
 rintro e w1 ⟨rfl,hb1⟩
 have HB1:=Lib.hid hb1
 clear hb1
 cases ok with
 | false =>
  go_wp2_with fail
  exact bodyPost_ret (v:=.int .i64 2) (results_tmp (t:=4) rfl _ _ _) rfl ⟨by unfold balV;rw [if_neg (by decide)],HB1.out.alloc HB1.out.size _⟩
 | true =>
  by_cases h2:ls.length = 2
  case neg =>
   have hd2:((ls.length:Int) != 2) = true:=by rw [bne_iff_ne];omega
   go_wp2_with fail
   go_quiet (fail)
   go_wp2_with fail
   exact bodyPost_ret (v:=.int .i64 10) (results_tmp (t:=4) rfl _ _ _) rfl ⟨by unfold balV;rw [if_pos rfl,if_neg (fun h=>h2 h.1)],pw_below_drewN (HB1.out.alloc HB1.out.size _) _⟩
  have hd2:((ls.length:Int) != 2) = false:=by rw [bne_eq_false_iff_eq];omega
  obtain ⟨ad,A0,c0,eA,hx0,hl0,hi0⟩:=at_L3 HL.out 0 (by omega) (by omega)
  obtain ⟨ad',A1,c1,eA',hx1,hl1,hi1⟩:=at_L3 HL.out 1 (by omega) (by omega)
  cases eA
  obtain rfl:ad = ad':=by injection eA'
  rw [show (0:Int).toNat = 0 from rfl,Addr.add_zero'] at hx0
  simp only [show (1:Int).toNat = 1 from rfl,Nat.reduceMul,Nat.reduceEqDiff,Go.Addr.add,↓reduceIte] at hx1
  have hba:Below w.heap.size w (w1.alloc (Obj.cells #[Value.int IntKind.i64 n,Value.string s] 81)):=HB1.out.alloc HB1.out.size _
  have hy0:=(hba.cell (World.block_lt_of_cell? w _ hx0)).trans hx0
  have hy1:=(hba.cell (World.block_lt_of_cell? w _ hx1)).trans hx1
  have HX0:=Lib.hid hx0
  have HX1:=Lib.hid hx1
  have HBA:=Lib.hid hba
  have HI0:=Lib.hid hi0
  have HI1:=Lib.hid hi1
  clear hx0 hx1 hba hi0 hi1
  have hz0:0 < ls.length:=by omega
  have hz1:1 < ls.length:=by omega
  have hz2:(0:Int) < (ls.length:Int):=by omega
  have hz3:(1:Int) < (ls.length:Int):=by omega
  have H2:=Lib.hid h2
  clear h2 eA'
  by_cases h3:(rd_L3 ls 0).length = (rd_L3 ls 1).length
  case neg =>
   have hd3:(((rd_L3 ls 0).length:Int) != ((rd_L3 ls 1).length:Int)) = true:=by rw [bne_iff_ne];omega
   have H3:=Lib.hid h3
   clear h3
   go_wp2_with fail
   go_quiet (fail)
   go_wp2_with fail
   exact bodyPost_ret (v:=.int .i64 10) (results_tmp (t:=4) rfl _ _ _) rfl ⟨by unfold balV;rw [if_pos rfl,if_neg (fun h=>H3.out h.2.1)],pw_below_drewN HBA.out _⟩
  have hd3:(((rd_L3 ls 0).length:Int) != ((rd_L3 ls 1).length:Int)) = false:=by rw [bne_eq_false_iff_eq];omega
  obtain ⟨q,hq⟩:∃ q,decide ((1:Int) ≤ ((rd_L3 ls 0).length:Int) ∧ ((rd_L3 ls 0).length:Int) ≤ 1000) = q:=⟨_,rfl⟩
  have H3:=Lib.hid h3
  have HQ:=Lib.hid hq
  clear h3 hq
  cases q with
  | false =>
   go_wp2_with fail
   go_quiet ((go_at_call 61;have hc_:=within_q ((rd_L3 ls 0).length:Int) 1 1000 (w1.alloc (Obj.cells #[Value.int IntKind.i64 n,Value.string s] 81)) ‹Nat›;rw [HQ.out] at hc_;exact hc_))
   go_wp2_with fail
   exact bodyPost_ret (v:=.int .i64 10) (results_tmp (t:=4) rfl _ _ _) rfl ⟨by unfold balV;rw [if_pos rfl,if_neg (fun h=>of_decide_eq_false HQ.out ⟨by omega,by omega⟩)],pw_below_drewN HBA.out _⟩
  | true =>
   go_wp2_with fail
   go_quiet ((go_at_call 61;have hc_:=within_q ((rd_L3 ls 0).length:Int) 1 1000 (w1.alloc (Obj.cells #[Value.int IntKind.i64 n,Value.string s] 81)) ‹Nat›;rw [HQ.out] at hc_;exact hc_))
   have hcn:((w1.alloc (Obj.cells #[Value.int IntKind.i64 n,Value.string s] 81)).drewN nq).cell? { block:=w1.heap.size,off:=0 } = some (.int .i64 (n:Int)):=by
    have h:=World.alloc_heap_new w1 (Obj.cells #[Value.int IntKind.i64 n,Value.string s] 81)
    show (w1.alloc (Obj.cells #[Value.int IntKind.i64 n,Value.string s] 81)).cell? _ = _
    unfold World.cell?;rw [h];rfl
   obtain ⟨w3,hw3⟩:∃ W,(w1.alloc (Obj.cells #[Value.int IntKind.i64 n,Value.string s] 81)).drewN nq = W:=⟨_,rfl⟩
   have hs3:w3.heap.size = w1.heap.size + 1:=by rw [← hw3];show (w1.alloc _).heap.size = _;rw [World.size_alloc]
   have hb3:Below w.heap.size w w3:=hw3 ▸ pw_below_drewN HBA.out _
   rw [hw3] at hcn ⊢
   have HS3:=Lib.hid hs3
   have HB3:=Lib.hid hb3
   have HCN:=Lib.hid hcn
   clear hs3 hb3 hcn hw3
   go_wp2_with fail
   go_loopg [43] 2 (fun m s43 W=>∃ (k:Nat) (x:List Int),s43 = .int .i64 (k:Int) ∧ k ≤ 2 ∧ 2 ≤ m + k ∧ x.length = 6 ∧ Below w.heap.size w W ∧ W.cell? { block:=w1.heap.size,off:=0 } = some (.int .i64 (n:Int)) ∧ W.heap[w3.heap.size]? = some (rowO x) ∧ balK s n ls 2 0 zer6 = balK s n ls (2 - k) k x)
   case atStart =>
    have hwn:=HB1.out.size
    have hz3:=HS3.out
    exact ⟨0,zer6,rfl,by omega,by omega,rfl,HB3.out.alloc HB3.out.size _,((Below.refl _ _).alloc (Nat.le_refl _) _ |>.cell (p:={ block:=w1.heap.size,off:=0 }) (by show w1.heap.size < w3.heap.size;omega)).trans HCN.out,World.alloc_heap_new w3 _,rfl⟩
   case round =>
    obtain ⟨k,x,rfl,hk,hm,hx6,hB,hc,hrow,hv⟩:=hrel
    have HB:=Lib.hid hB
    have HC:=Lib.hid hc
    have HR:=Lib.hid hrow
    have HV:=Lib.hid hv
    have HX6:=Lib.hid hx6
    clear hB hc hrow hv hx6
    by_cases hk2:k < 2
    case neg =>
     have:k = 2:=by omega
     subst this
     obtain ⟨x0,x1,x2,x3,x4,x5,hx⟩:=six x HX6.out
     subst hx
     obtain ⟨q0,q1,q2,q3,q4,q5⟩:=cells6 HR.out
     have hle2:decide (2 < ls.length) = false:=decide_eq_false (by have:=H2.out;omega)
     have hle3:¬ (2 < ls.length):=by have:=H2.out;omega
     obtain ⟨q,hq⟩:∃ q,eq6 [x0,x1,x2,x3,x4,x5] [0,0,0,0,0,0] = q:=⟨_,rfl⟩
     have HQ6:=Lib.hid hq
     have hbv:balV s ls n true = if [x0,x1,x2,x3,x4,x5] = zer6 then 0 else 10:=by
      unfold balV
      rw [if_pos rfl,if_pos ⟨H2.out,H3.out,len_ok HQ.out⟩,HV.out]
      rfl
     have HBV:=Lib.hid hbv
     clear hbv
     cases q with
     | true =>
      go_wp2_with fail
      exact bodyPost_ret (v:=.int .i64 0) (results_tmp (t:=4) rfl _ _ _) rfl ⟨by rw [HBV.out,if_pos (show _ = zer6 from of_decide_eq_true HQ6.out)],HB.out⟩
     | false =>
      go_wp2_with fail
      exact bodyPost_ret (v:=.int .i64 10) (results_tmp (t:=4) rfl _ _ _) rfl ⟨by rw [HBV.out,if_neg (show ¬ _ = zer6 from of_decide_eq_false HQ6.out)],HB.out⟩
    obtain ⟨adk,Ak,ck,eA,hxk,hlk,hik⟩:=at_L3 HL.out (k:Int) (by omega) (by have:=H2.out;omega)
    obtain rfl:ad = adk:=by injection eA
    rw [Int.toNat_natCast] at hxk
    have hyk:=(HB.out.cell (World.block_lt_of_cell? w _ hxk)).trans hxk
    obtain ⟨lk,hlk0⟩:∃ l,rd_L3 ls (k:Int) = l:=⟨_,rfl⟩
    rw [hlk0] at hyk hlk hik
    have HLK:=Lib.hid hlk0
    have HIK:=Lib.hid hik
    have hkz:k < ls.length:=by have:=H2.out;omega
    have hfl:lk.length ≤ 9223372036854775807:=Kd.C_max hik
    clear hxk hik hlk0 eA
    go_wp2_with fail
    go_loopg [50] lk.length (fun m s50 W=>∃ (j:Nat) (y:List Int),s50 = .int .i64 (j:Int) ∧ j ≤ lk.length ∧ lk.length ≤ m + j ∧ y.length = 6 ∧ Below w.heap.size w W ∧ W.cell? { block:=w1.heap.size,off:=0 } = some (.int .i64 (n:Int)) ∧ W.heap[w3.heap.size]? = some (rowO y) ∧ balK s n ls 2 0 zer6 = balJ s n ls (1 - k) k (lk.drop j) y)
    case atStart => 
     refine ⟨0,x,rfl,by omega,by omega,HX6.out,HB.out,HC.out,HR.out,?_⟩
     rw [HV.out,two_sub hk2,balK,HLK.out,List.drop_zero,balJ]
    case round=>as_aux_lemma =>
     obtain ⟨j,y,rfl,hj,hmj,hy6,hB,hc,hrow,hv⟩:=hrel
     have HBJ:=Lib.hid hB
     have HCJ:=Lib.hid hc
     have HRJ:=Lib.hid hrow
     have HVJ:=Lib.hid hv
     have HY6:=Lib.hid hy6
     clear hB hc hrow hv hy6
     by_cases hjl:j < lk.length
     case neg =>
      have:j = lk.length:=by omega
      subst this
      have hw1k:=wrap_succ (i:=k) (by omega)
      go_wp2_with fail
      go_roundg (2 - (k + 1))
      case measure=>clear hw1k;omega
      case rel =>
       refine ⟨k + 1,y,by simp [hw1k],hk2,by clear hw1k;omega,HY6.out,HBJ.out,HCJ.out,HRJ.out,?_⟩
       rw [HVJ.out,balJ,List.drop_length,balI,two_sub' hk2]
     obtain ⟨aj,eJ,hxj⟩:=Kd.at_int HIK.out (j:Int) (by omega) (by omega)
     cases eJ
     rw [Int.toNat_natCast] at hxj
     have hyj:=(HBJ.out.cell (World.block_lt_of_cell? w _ hxj)).trans hxj
     obtain ⟨p,hp0⟩:∃ p,rd lk (j:Int) = p:=⟨_,rfl⟩
     rw [hp0] at hyj
     have HP:=Lib.hid hp0
     clear hxj hp0
     obtain ⟨q,hq⟩:∃ q,decide (0 ≤ p ∧ p ≤ (s.size:Int) - 1) = q:=⟨_,rfl⟩
     have hsub:IntKind.i64.wrap ((s.size:Int) - 1) = (s.size:Int) - 1:=sub_one hsz
     have HQ2:=Lib.hid hq
     cases q with
     | false =>
      clear hq
      go_wp2_with fail
      go_quiet ((go_at_call 61;have hc_:=within_q p 0 ((s.size:Int) - 1);rw [HQ2.out] at hc_;exact hc_ _ _))
      go_wp2_with fail
      refine bodyPost_ret (v:=.int .i64 10) (results_tmp (t:=4) rfl _ _ _) rfl ⟨?_,pw_below_drewN HBJ.out _⟩
      unfold balV
      rw [if_pos rfl,if_pos ⟨H2.out,H3.out,len_ok HQ.out⟩,HVJ.out]
      unfold balJ
      rw [drop_rd hjl,HP.out,balI,if_neg (fun h=>of_decide_eq_false HQ2.out h.1)]
     | true =>
      obtain ⟨hp0,hp1⟩:=of_decide_eq_true hq
      have hp2:p < (s.size:Int):=lt_of_sub hp1
      have hpN:p.toNat < s.size:=toNat_lt hp0 hp2
      have hbt:=bt_at s p
      have hbk:=bt_at (⟨#[49,48]⟩:ByteArray) (k:Int)
      have hk20:(0:Int) ≤ (k:Int):=Int.natCast_nonneg k
      have hk21:(k:Int) < (2:Int):=Int.ofNat_lt.2 hk2
      obtain ⟨r,hr⟩:∃ r,(bt s p != bt (⟨#[49,48]⟩:ByteArray) (k:Int)) = r:=⟨_,rfl⟩
      have HR2:=Lib.hid hr
      rw [bt_get (s:=(⟨#[49,48]⟩:ByteArray)) (i:=k) hk2] at hr
      clear hq
      cases r with
      | true =>
       go_wp2_with fail
       go_quiet ((go_at_call 61;have hc_:=within_q p 0 ((s.size:Int) - 1);rw [HQ2.out] at hc_;exact hc_ _ _))
       go_wp2_with fail
       refine bodyPost_ret (v:=.int .i64 10) (results_tmp (t:=4) rfl _ _ _) rfl ⟨?_,pw_below_drewN HBJ.out _⟩
       unfold balV
       rw [if_pos rfl,if_pos ⟨H2.out,H3.out,len_ok HQ.out⟩,HVJ.out]
       unfold balJ
       rw [drop_rd hjl,HP.out,balI,if_neg (fun h=>bne_iff_ne.1 HR2.out h.2)]
      | false =>
       obtain ⟨y0,y1,y2,y3,y4,y5,hy⟩:=six y HY6.out
       subst hy
       go_wp2_with fail
       go_quiet ((go_at_call 61;have hc_:=within_q p 0 ((s.size:Int) - 1);rw [HQ2.out] at hc_;exact hc_ _ _))
       have hr5:(wr.drewN nq).heap[w3.heap.size]? = some (rowO [y0,y1,y2,y3,y4,y5]):=HRJ.out
       have hc5:(wr.drewN nq).cell? { block:=w1.heap.size,off:=0 } = some (.int .i64 (n:Int)):=HCJ.out
       have hb5:Below w.heap.size w (wr.drewN nq):=pw_below_drewN HBJ.out _
       obtain ⟨w5,hw5⟩:∃ W,wr.drewN nq = W:=⟨_,rfl⟩
       rw [hw5] at hr5 hc5 hb5 ⊢
       obtain ⟨q0,q1,q2,q3,q4,q5⟩:=cells6 hr5
       have HR5:=Lib.hid hr5
       have HC5:=Lib.hid hc5
       have HB5:=Lib.hid hb5
       clear hw5 hr5 hb5 hbt hbk hr hyj
       have hg3:w.heap.size ≤ w3.heap.size:=HB3.out.size
       have hs31:=HS3.out
       have hg5:w3.heap.size < w5.heap.size:=blk_lt HR5.out
       have hmul:IntKind.i64.wrap (2 * (k:Int)) = 2 * (k:Int):=two_k hk2
       have hsb:IntKind.i64.wrap (1 - 2 * (k:Int)) = 1 - 2 * (k:Int):=one_k hk2
       have HS31:=Lib.hid hs31
       clear hs31
       go_wp2_with fail
       refine (changed63 [y0,y1,y2,y3,y4,y5] rfl n hn p (1 - 2 * (k:Int)) _).mono ?_
       rintro e w6 ⟨rfl,hb6⟩
       have hr6:=(hb6.block _ hg5).trans HR5.out
       obtain ⟨z0,z1,z2,z3,z4,z5,hz⟩:=six (chV [y0,y1,y2,y3,y4,y5] p (1 - 2 * (k:Int)) n) (by rw [chV_len];rfl)
       have HZ:=Lib.hid hz
       rw [hz]
       obtain ⟨q0,q1,q2,q3,q4,q5⟩:=cells6 hr6
       obtain ⟨f0,f1,f2,f3,f4,f5⟩:=frozen6 hr6
       have HR6:=Lib.hid hr6
       have HB6:=Lib.hid hb6
       clear hr6 hb6 hz
       unfold stV
       have hw1j:=wrap_succ (i:=j) (Nat.lt_of_lt_of_le hjl hfl)
       go_wp2_with fail
       go_roundg (lk.length - (j + 1))
       case measure=>clear hw1j;omega
       case rel =>
        have e6:=blk_set (blk_set (blk_set (blk_set (blk_set (blk_set HR6.out 0 (.int .i64 z0)) 1 (.int .i64 z1)) 2 (.int .i64 z2)) 3 (.int .i64 z3)) 4 (.int .i64 z4)) 5 (.int .i64 z5)
        have hwn:=HB1.out.size
        have hne5:w1.heap.size < w5.heap.size:=by have:=HS31.out;omega
        refine ⟨j + 1,[z0,z1,z2,z3,z4,z5],by simp [hw1j],hjl,by clear hw1j;omega,rfl,?_,?_,e6,?_⟩
        ·exact ((((((HB5.out.trans (HB6.out.mono HB5.out.size)).setCell hg3 _).setCell hg3 _).setCell hg3 _).setCell hg3 _).setCell hg3 _).setCell hg3 _
        ·have hc6:=(HB6.out.cell (p:={ block:=w1.heap.size,off:=0 }) hne5).trans HC5.out
         have hd:({ block:=w1.heap.size,off:=0 }:Addr).block ≠ w3.heap.size:=by have:=HS31.out;show w1.heap.size ≠ _;omega
         rw [cell_far hd,cell_far hd,cell_far hd,cell_far hd,cell_far hd,cell_far hd]
         exact hc6
        rw [HVJ.out]
        unfold balJ
        rw [drop_rd hjl,HP.out,balI,if_pos ⟨⟨hp0,hp1⟩,bne_eq_false_iff_eq.1 HR2.out⟩,HZ.out]
end Go.Proofs.Ythpahlkhiknofaa.H
namespace Go.Proofs.Ythpahlkhiknofaa.H
open Go Go.RowKit Go.Shelf Go.Proofs.Ythpahlkhiknofaa.G Go.Proofs.Ythpahlkhiknofaa.P Go.Proofs.YthpahlkhiknofaaW.PrintWords Go.Proofs.YthpahlkhiknofaaW.PrintLast Go.Proofs.YthpahlkhiknofaaW.PrintMore
set_option maxHeartbeats 4000000 in
set_option maxRecDepth 100000 in
theorem balance_no (s:ByteArray) (A:Option Addr) (len c:Nat) (w:World) (n:Int) (hnew:card_newTotal.f s = some (n,s,false)) :
  Calls Try.prog 20 #[.string s,.slice A len c] w fun e w'=>e = .returned (.int .i64 2) ∧ Below w.heap.size w w':=by
 have HN:=Lib.hid (card_newTotal.calls s n s false w hnew)
 go_enter Try.func20,Try.ntmps20
 go_wp2_with fail
 refine HN.out.mono ?_
 rintro e w1 ⟨rfl,hb1⟩
 have HB1:=Lib.hid hb1
 clear hb1
 go_wp2_with fail
 exact bodyPost_ret (v:=.int .i64 2) (results_tmp (t:=4) rfl _ _ _) rfl ⟨rfl,HB1.out.alloc HB1.out.size _⟩
end Go.Proofs.Ythpahlkhiknofaa.H
namespace Go.Proofs.Ythpahlkhiknofaa.G
open Go Go.RowKit Go.Proofs.YthpahlkhiknofaaW.PrintWords
def card_Balance.f (a0:ByteArray) (l1:List (List Int)):Option (Int):=(card_newTotal.f a0).bind fun t=>if okT a0 t.1 t.2.1 t.2.2 ∧ H.fitL l1 then some (H.balV a0 l1 t.1.toNat t.2.2) else none
theorem card_Balance.calls (a0:ByteArray) (A1:Option Addr) (c1:Nat) (l1:List (List Int)) (r:Int) (w:World) (hr1:Kd.C (Kd.slice 3 (Kd.int .i64)) w A1 l1.length l1) (_:l1.length ≤ c1) (h:card_Balance.f a0 l1 = some r) :
  Calls Try.prog 20 #[.string a0,.slice A1 l1.length c1] w fun e w'=>e = .returned (.int .i64 r) ∧ Below w.heap.size w w':=by
 unfold card_Balance.f at h
 obtain ⟨t,ht,h⟩:=Option.bind_eq_some_iff.1 h
 obtain ⟨n,s,ok⟩:=t
 by_cases hf:okT a0 n s ok ∧ H.fitL l1
 case neg =>
  rw [if_neg hf] at h
  cases h
 rw [if_pos hf] at h
 obtain rfl:=Option.some.inj h
 obtain ⟨⟨rfl,h1,h2⟩,h4⟩:=hf
 cases ok with
 | false =>
  have e:H.balV a0 l1 n.toNat false = 2:=by unfold H.balV;first | rfl | (rw [if_neg (by decide)]) | (rw [if_neg (fun h=>by cases h.1)])
  rw [show (H.balV a0 l1 (n,a0,false).1.toNat (n,a0,false).2.2) = 2 from e]
  exact H.balance_no a0 A1 l1.length c1 w n ht
 | true =>
  obtain ⟨h2,h3⟩:=h2 rfl
  obtain ⟨m,rfl⟩:∃ m:Nat,n = (m:Int):=⟨n.toNat,by omega⟩
  have:=H.balance20 a0 A1 c1 l1 w hr1 h4 h1 m true ht (by omega)
  rwa [show m = ((m:Int)).toNat from rfl] at this
end Go.Proofs.Ythpahlkhiknofaa.G
set_option linter.unusedSectionVars false
namespace Go.Proofs.Ythpahlkhiknofaa.P
open Go Go.RowKit Go.Proofs.Ythpahlkhiknofaa.M Go.Proofs.Ythpahlkhiknofaa.G Go.Proofs.Ythpahlkhiknofaa.H
open Go.Proofs.YthpahlkhiknofaaW.PrintWords Go.Proofs.YthpahlkhiknofaaW.PrintMore
def bI (p i:Nat):Int:=if p.testBit i = true then 1 else 0
theorem bI_cases (p i:Nat):bI p i = 0 ∨ bI p i = 1:=by unfold bI;split <;> simp
theorem and_oneN (p:Nat) (h:p < 2 ^ 60):Go.bits .and .i64 (p:Int) 1 = ((p % 2:Nat):Int):=by
  have:=ni_and p 1 (by omega) (by decide)
  rw [Nat.and_one_is_mod] at this
  exact this
theorem bit_div {p i:Nat} (hp:p < 2 ^ 60):Go.bits .and .i64 ((p:Int) / 2 ^ i) 1 = bI p i:=by
  have hw:p / 2 ^ i < 2 ^ 60:=Nat.lt_of_le_of_lt (Nat.div_le_self _ _) hp
  rw [div_two_pow,and_oneN _ hw]
  unfold bI
  rw [Nat.testBit_eq_decide_div_mod_eq]
  rcases Nat.mod_two_eq_zero_or_one (p / 2 ^ i) with h | h <;> simp [h]
/-- The sum of the weights of a point. -/
def wsum (xs:List Int) (p:Nat):Nat → Int
  | 0=>0
  | i + 1=>wsum xs p i + rd xs (i:Int) * bI p i
def Sm (B:Int) (xs:List Int):Prop:=∀ i:Nat,i < 6 → -B ≤ rd xs (i:Int) ∧ rd xs (i:Int) ≤ B
theorem wsum_bd {xs:List Int} {B:Int} (hB:0 ≤ B) (h:Sm B xs) (p:Nat):∀ n,n ≤ 5 → -(n * B) ≤ wsum xs p n ∧ wsum xs p n ≤ n * B
  | 0,_=>by simp [wsum]
  | n + 1,hn=>by
    have ih:=wsum_bd hB h p n (by omega)
    have hx:=h n (by omega)
    rw [wsum]
    have e:((n + 1:Nat):Int) * B = n * B + B:=by rw [Int.natCast_add,Int.add_mul];simp
    rw [e]
    rcases bI_cases p n with hb | hb <;> rw [hb] <;> constructor <;> omega
theorem val_eq {xs:List Int} {B:Int} (hB:0 ≤ B) (hB2:B ≤ 1000000000000) (h:Sm B xs) {p:Nat} (hp:p < 2 ^ 60) {a:Int} (ha:-B ≤ a ∧ a ≤ B):∀ n,n ≤ 5 → valS xs (p:Int) n a = a + wsum xs p n
  | 0,_=>by simp [valS,wsum]
  | n + 1,hn=>by
    have ih:=val_eq hB hB2 h hp ha n (by omega)
    have hb:=wsum_bd hB h p n (by omega)
    have hx:=h n (by omega)
    have hm:(n:Int) * B ≤ 5 * B:=Int.mul_le_mul_of_nonneg_right (by omega) hB
    rw [valS,wsum,bit_div hp,ih]
    by_cases hbit:p.testBit n = true
    · have e1:bI p n = 1:=by unfold bI;rw [if_pos hbit]
      rw [e1,if_pos (by decide),Int.mul_one,wrap_id (by omega) (by omega)]
      omega
    · have e1:bI p n = 0:=by unfold bI;rw [if_neg hbit]
      rw [e1,if_neg (by decide),Int.mul_zero,Int.add_zero]
/-- Whether weights put a point on its side. -/
def okR (c:ByteArray) (l:List Int) (n p:Nat):Bool:=decide (wsum l p n ≥ rd l (n:Int)) == (bt c (p:Int) == 49)
theorem rzL_eq {c:ByteArray} {l:List Int} {n:Nat} (hn:n ≤ 5) (hc:c.size ≤ 40) {B:Int} (hB:0 ≤ B) (hB2:B ≤ 1000000000) (h:Sm B l):∀ d p,p + d ≤ 40 → rzL l n c d p = if allF (okR c l n) d p = true then 0 else 10
  | 0,_,_=>rfl
  | d + 1,p,hp=>by
    have ih:=rzL_eq hn hc hB hB2 h d (p + 1) (by omega)
    have hx:=h n (by omega)
    have h60:p < 2 ^ 60:=Nat.lt_of_lt_of_le (show p < 64 by omega) (by decide)
    have hv:=val_eq hB (by omega) h h60 (a:=wrap64 (-rd l (n:Int))) (by rw [wrap_id (by omega) (by omega)];omega) n hn
    rw [wrap_id (by omega) (by omega)] at hv
    rw [rzL,wrap_id (by omega) (by omega),hv,allF,ih]
    unfold okR
    have e:decide (-rd l (n:Int) + wsum l p n ≥ 0) = decide (wsum l p n ≥ rd l (n:Int)):=by congr 1;exact propext ⟨fun h=>by omega,fun h=>by omega⟩
    rw [e]
    cases decide (wsum l p n ≥ rd l (n:Int)) <;> cases (bt c (p:Int) == 49) <;> simp
theorem bad_sm {l:List Int} (h:bad60 l = false):Sm 1000000 l:=by
  intro i _
  by_cases hil:i < l.length
  · rw [rd_get hil]
    have:=List.any_eq_false.1 h l[i] (List.getElem_mem hil)
    simp only [Bool.not_eq_true',Bool.not_eq_true,decide_eq_false_iff_not,Decidable.not_not,Bool.not_eq_false',decide_eq_true_eq] at this
    omega
  · have:rd l (i:Int) = 0:=by unfold rd;simp [show ¬ i < l.length from hil]
    rw [this];omega
theorem pad_rd {l:List Int} (hl:l.length ≤ 6) (i:Nat):rd (padL l) (i:Int) = rd l (i:Int):=by
  by_cases h:i < 6
  · rcases (by omega:i = 0 ∨ i = 1 ∨ i = 2 ∨ i = 3 ∨ i = 4 ∨ i = 5) with rfl | rfl | rfl | rfl | rfl | rfl <;> rfl
  · unfold rd padL
    rw [List.getD_eq_getElem?_getD,List.getD_eq_getElem?_getD,List.getElem?_eq_none (by simp;omega),List.getElem?_eq_none (by rw [Int.toNat_natCast];omega)]
theorem wsum_congr {a b:List Int} (h:∀ i:Nat,rd a (i:Int) = rd b (i:Int)) (p:Nat):∀ n,wsum a p n = wsum b p n
  | 0=>rfl
  | n + 1=>by rw [wsum,wsum,wsum_congr h p n,h n]
def sgn (s:Int):Prop:=s = 1 ∨ s = -1
theorem sg_b {sg:Int} (hs:sgn sg) (p v:Nat):-1 ≤ sg * bI p v ∧ sg * bI p v ≤ 1:=by
  rcases hs with rfl | rfl <;> rcases bI_cases p v with e | e <;> rw [e] <;> decide
theorem chL_tab {f:Nat → Int} (hB:∀ v,-1000000000 ≤ f v ∧ f v ≤ 1000000000) {sg:Int} (hs:sgn sg) {p:Nat} (hp:p < 2 ^ 60):∀ i,i ≤ 6 → chL (tabI 6 f) (p:Int) sg i = tabI 6 (fun v=>if v < i then f v + sg * bI p v else f v)
  | 0,_=>by rw [chL];exact tabI_congr fun v _=>by simp
  | i + 1,hi=>by
    have hb:=hB i
    have hg:=sg_b hs p i
    rw [chL,chL_tab hB hs hp i (by omega),bit_div hp,tabI_rd (by omega),if_neg (Nat.lt_irrefl i),wrap_id (x:=sg * bI p i) (by omega) (by omega),wrap_id (by omega) (by omega),tabI_set]
    exact tabI_congr fun v _=>by
      by_cases e:v = i
      · subst e;rw [if_pos rfl,if_pos (by omega)]
      · rw [if_neg e]
        by_cases h:v < i
        · rw [if_pos h,if_pos (by omega)]
        · rw [if_neg h,if_neg (by omega)]
def updF (n p:Nat) (sg:Int) (f:Nat → Int):Nat → Int:=fun v=>if v = n then f v - sg else if v < n then f v + sg * bI p v else f v
theorem chV_tab {f:Nat → Int} (hB:∀ v,-1000000000 ≤ f v ∧ f v ≤ 1000000000) {sg:Int} (hs:sgn sg) {p:Nat} (hp:p < 2 ^ 60) {n:Nat} (hn:n ≤ 5):chV (tabI 6 f) (p:Int) sg n = tabI 6 (updF n p sg f):=by
  have hb:=hB n
  have h1:-1 ≤ sg ∧ sg ≤ 1:=by rcases hs with rfl | rfl <;> decide
  rw [chV,chL_tab hB hs hp n (by omega),tabI_rd (by omega),if_neg (Nat.lt_irrefl n),wrap_id (by omega) (by omega),tabI_set]
  exact tabI_congr fun v _=>by
    unfold updF
    by_cases e:v = n
    · subst e;rw [if_pos rfl]
    · rw [if_neg e,if_neg e]
def cnt (v:Nat):List Int → Int
  | []=>0
  | p :: r=>bI p.toNat v + cnt v r
theorem cnt_bd (v:Nat):∀ l:List Int,0 ≤ cnt v l ∧ cnt v l ≤ l.length
  | []=>by simp [cnt]
  | p :: r=>by
    have:=cnt_bd v r
    rw [cnt,List.length_cons]
    rcases bI_cases p.toNat v with e | e <;> rw [e] <;> omega
theorem cnt_append (v:Nat):∀ a b:List Int,cnt v (a ++ b) = cnt v a + cnt v b
  | [],b=>by simp [cnt]
  | p :: r,b=>by rw [List.cons_append,cnt,cnt,cnt_append v r b];omega
def okPt (c:ByteArray) (k:Nat) (p:Int):Bool:=decide ((0 ≤ p ∧ p ≤ (c.size:Int) - 1) ∧ bt c p = bt (⟨#[49,48]⟩:ByteArray) (k:Int))
theorem sgn_k {k:Nat} (hk:k < 2):sgn (1 - 2 * (k:Int)):=by
  rcases (by omega:k = 0 ∨ k = 1) with rfl | rfl
  · exact .inl rfl
  · exact .inr rfl
def afterF (n:Nat) (sg:Int) (l:List Int) (f:Nat → Int):Nat → Int:=fun v=>if v = n then f v - sg * (l.length:Int) else if v < n then f v + sg * cnt v l else f v
theorem balI_tab {c:ByteArray} (hc:c.size ≤ 40) {n:Nat} (hn:n ≤ 5) {k:Nat} (hk:k < 2):∀ (l:List Int) (f:Nat → Int) (B:Int),0 ≤ B → B + l.length ≤ 1000000000 → (∀ v,-B ≤ f v ∧ f v ≤ B) → balI c n k l (tabI 6 f) = if l.all (okPt c k) = true then some (tabI 6 (afterF n (1 - 2 * (k:Int)) l f)) else none
  | [],f,B,_,_,_=>by
    rw [balI,List.all_nil,if_pos rfl]
    congr 1
    exact tabI_congr fun v _=>by unfold afterF;simp [cnt]
  | p :: r,f,B,h0,h1,hf=>by
    have hs:sgn (1 - 2 * (k:Int)):=sgn_k hk
    rw [List.length_cons] at h1
    rw [balI,List.all_cons]
    by_cases h:(0 ≤ p ∧ p ≤ (c.size:Int) - 1) ∧ bt c p = bt (⟨#[49,48]⟩:ByteArray) (k:Int)
    · have ho:okPt c k p = true:=decide_eq_true h
      obtain ⟨q,rfl⟩:∃ q:Nat,p = (q:Int):=⟨p.toNat,by omega⟩
      have hq:q < 2 ^ 60:=Nat.lt_of_lt_of_le (show q < 64 by omega) (by decide)
      have hu:∀ v,-(B + 1) ≤ updF n q (1 - 2 * (k:Int)) f v ∧ updF n q (1 - 2 * (k:Int)) f v ≤ B + 1:=fun v=>by
        have:=hf v
        have:=sg_b hs q v
        have:-1 ≤ (1 - 2 * (k:Int)) ∧ (1 - 2 * (k:Int)) ≤ 1:=by omega
        unfold updF
        split
        · omega
        · split <;> omega
      rw [if_pos h,ho,Bool.true_and,chV_tab (fun v=>by have:=hf v;omega) hs hq hn,balI_tab hc hn hk r _ (B + 1) (by omega) (by omega) hu]
      by_cases ha:r.all (okPt c k) = true
      · rw [if_pos ha,if_pos ha]
        congr 1
        exact tabI_congr fun v _=>by
          unfold afterF updF
          rw [List.length_cons,cnt,Int.toNat_natCast]
          by_cases e:v = n
          · rw [if_pos e,if_pos e,if_pos e,Int.natCast_add,Int.mul_add];omega
          · rw [if_neg e,if_neg e,if_neg e]
            by_cases e2:v < n
            · rw [if_pos e2,if_pos e2,if_pos e2,Int.mul_add];omega
            · rw [if_neg e2,if_neg e2,if_neg e2]
      · rw [if_neg ha,if_neg ha]
    · have ho:okPt c k p = false:=decide_eq_false h
      rw [if_neg h,ho,Bool.false_and,if_neg (by decide)]
/-- Two lists are a balance. -/
def sameB (n:Nat) (a b:List Int):Bool:=allF (fun v=>decide (cnt v a - cnt v b = 0)) n 0
def lensB (ls:List (List Int)):Prop:=ls.length = 2 ∧ (rd_L3 ls 0).length = (rd_L3 ls 1).length ∧ 1 ≤ (rd_L3 ls 0).length ∧ (rd_L3 ls 0).length ≤ 1000
instance (ls:List (List Int)):Decidable (lensB ls):=by unfold lensB;exact inferInstance
def isBal (c:ByteArray) (n:Nat) (ls:List (List Int)):Bool:=decide (lensB ls) && ((rd_L3 ls 0).all (okPt c 0) && ((rd_L3 ls 1).all (okPt c 1) && sameB n (rd_L3 ls 0) (rd_L3 ls 1)))
def zf:Nat → Int:=fun _=>0
theorem balK_two (c:ByteArray) (n:Nat) (ls:List (List Int)):balK c n ls 2 0 zer6 = match balI c n 0 (rd_L3 ls 0) (tabI 6 zf) with
    | none=>10
    | some y=>match balI c n 1 (rd_L3 ls 1) y with
      | none=>10
      | some z=>if z = tabI 6 zf then 0 else 10:=rfl
theorem bal0 {c:ByteArray} (hc:c.size ≤ 40) {n:Nat} (hn:n ≤ 5) (l:List Int) (hl:l.length ≤ 1000):balI c n 0 l (tabI 6 zf) = if l.all (okPt c 0) = true then some (tabI 6 (afterF n 1 l zf)) else none :=
  balI_tab hc hn (by decide) l zf 0 (by decide) (by omega) (fun v=>by rw [show zf v = 0 from rfl];omega)
theorem zf_v (v:Nat):zf v = 0:=rfl
theorem bal1 {c:ByteArray} (hc:c.size ≤ 40) {n:Nat} (hn:n ≤ 5) (l m:List Int) (hl:l.length ≤ 1000) (hm:m.length ≤ 1000):balI c n 1 m (tabI 6 (afterF n 1 l zf)) = if m.all (okPt c 1) = true then some (tabI 6 (afterF n (-1) m (afterF n 1 l zf))) else none :=
  balI_tab hc hn (by decide) m _ 1000 (by decide) (by omega) (fun v=>by
    have:=cnt_bd v l
    unfold afterF
    rw [zf_v]
    split
    · omega
    · split <;> omega)
theorem balV_eq {c:ByteArray} (hc:c.size ≤ 40) {n:Nat} (hn:n ≤ 5) (ls:List (List Int)):balV c ls n true = if isBal c n ls = true then 0 else 10:=by
  unfold balV isBal
  rw [if_pos rfl]
  by_cases hl:lensB ls
  · have hl':=hl
    unfold lensB at hl'
    rw [if_pos hl',decide_eq_true hl,Bool.true_and]
    obtain ⟨_,h1,h2,h3⟩:=hl'
    rw [balK_two,bal0 hc hn _ h3]
    by_cases a0:(rd_L3 ls 0).all (okPt c 0) = true
    · rw [if_pos a0,a0,Bool.true_and]
      simp only
      rw [bal1 hc hn _ _ h3 (by omega)]
      by_cases a1:(rd_L3 ls 1).all (okPt c 1) = true
      · rw [if_pos a1,a1,Bool.true_and]
        simp only
        have key:(tabI 6 (afterF n (-1) (rd_L3 ls 1) (afterF n 1 (rd_L3 ls 0) zf)) = tabI 6 zf) ↔ sameB n (rd_L3 ls 0) (rd_L3 ls 1) = true:=by
          unfold sameB
          rw [allF_iff]
          constructor
          · intro e v _ hv
            have e2:=congrArg (fun l=>rd l (v:Int)) e
            simp only [tabI_rd (show v < 6 by omega)] at e2
            unfold afterF at e2
            rw [if_neg (by omega),if_pos (by omega),if_neg (by omega),if_pos (by omega),zf_v] at e2
            exact decide_eq_true (by omega)
          · intro h
            exact tabI_congr fun v _=>by
              unfold afterF
              rw [zf_v]
              by_cases e:v = n
              · rw [if_pos e,if_pos e];omega
              · rw [if_neg e,if_neg e]
                by_cases e2:v < n
                · have:=of_decide_eq_true (h v (by omega) (by omega))
                  rw [if_pos e2,if_pos e2];omega
                · rw [if_neg e2,if_neg e2]
        by_cases hs:sameB n (rd_L3 ls 0) (rd_L3 ls 1) = true
        · rw [if_pos (key.2 hs),if_pos hs]
        · rw [if_neg (fun h=>hs (key.1 h)),if_neg hs]
      · rw [if_neg a1]
        have:(rd_L3 ls 1).all (okPt c 1) = false:=by simpa using a1
        rw [this,Bool.false_and,if_neg (by decide)]
    · have:(rd_L3 ls 0).all (okPt c 0) = false:=by simpa using a0
      rw [if_neg a0,this,Bool.false_and,if_neg (by decide)]
  · have hl':=hl
    unfold lensB at hl'
    rw [if_neg hl',decide_eq_false hl,Bool.false_and,if_neg (by decide)]
end Go.Proofs.Ythpahlkhiknofaa.P
