/- Several texts, joined. -/
import Derived.WalkKit
import Derived.ProofKit
import Derived.OpenShut
import Derived.ShutString
import Derived.ChangeOld
import Derived.ChangeSame
import Derived.Below
import Derived.SizedLaws
import Derived.Lib.Hide
import Derived.WalkSpells
import Derived.WalkLawsBesides
import Derived.Deep.DeepFit
import Derived.OwnWalkIn
import Derived.TacticsInMore
import Derived.LoopNIn
import Derived.LoopIn
import Derived.Sort.QuietIn
import Derived.Sort.BigQuietIn
import Derived.Sort.QuietTacIn
import Derived.Sort.LoopGhostIn
import Derived.Stop.RegionWithIn
import Derived.Maps.OwnIn
import Derived.Shelf.Abstract
import Derived.Shelf.RegionOpen
import Derived.RangeFuncRecord
import Derived.Lib.SliceRun
import Derived.Test.YthpahlkhiknofaaRows
import Derived.Test.YthpahlkhiknofaaQK2
namespace Go.Proofs.Ythpahlkhiknofaa.G
end Go.Proofs.Ythpahlkhiknofaa.G
namespace Go.Proofs.Ythpahlkhiknofaa.H
end Go.Proofs.Ythpahlkhiknofaa.H
namespace Go.Proofs.Ythpahlkhiknofaa.P
end Go.Proofs.Ythpahlkhiknofaa.P
namespace Go.Proofs.Ythpahlkhiknofaa.Row
end Go.Proofs.Ythpahlkhiknofaa.Row
set_option linter.unusedVariables false
set_option linter.unusedSimpArgs false
namespace Go.Proofs.Ythpahlkhiknofaa.Row
open Go Go.ChangeShapes Go.WideShapes Go.ChangeAt Go.RowKit Go.Proofs.Ythpahlkhiknofaa.G Go.Proofs.YthpahlkhiknofaaW.PrintWords
section
variable {H:Type} {enc:TypeId × Value → H} {w:World} {base:Nat} {spare:Nat → Bool} {held:Bool} {fuel:Nat} {cs:List Value} {x:DataW H × List MemPlace}
theorem open_ss (h:DataW.trod enc Try.prog w base spare held fuel 39 cs = some x):∃ (A:Option Addr) (l:List ByteArray) (c:Nat),cs = [.slice A l.length c] ∧ l.length ≤ c ∧ Kd.C Kd.string w A l.length l:=by
 rcases DataW.trod_slice Try.underlying39 h with ⟨rfl,_⟩ | ⟨a,len,cap,elems,rest,n,_,rfl,_,hb,hl,hm,hlen,hel,_,_⟩
 ·exact ⟨none,[],0,rfl,Nat.le_refl _,rfl,by decide,fun h=>by simp at h⟩
 ·have hm':cap ≤ 9223372036854775807:=hm
  have c9:Try.prog.cellsOf 9 = 1:=by kernel_rfl
  have key:∀ i,i < len → ∃ z:ByteArray,w.cell? (a.add i) = some (.string z):=by
   intro i hi
   have h0:=hel i hi
   rw [List.getElem?_eq_getElem (by omega),Option.bind_eq_some_iff,c9] at h0
   obtain ⟨cs',h1,h2⟩:=h0
   obtain ⟨_,hcl,hcc⟩:=World.cells?_some h1
   obtain ⟨z,q1,_,_⟩:=DataW.trod_string Try.underlying9 h2
   have k0:=hcc 0 (by omega)
   refine ⟨z,?_⟩
   have e:(a.add (i * 1)).add 0 = a.add i:=by rw [Nat.mul_one];rfl
   rw [e] at k0
   rw [k0,q1];rfl
  obtain ⟨f,hf⟩:∃ f:Nat → ByteArray,∀ i,i < len → w.cell? (a.add i) = some (.string (f i)) :=
   ⟨fun i=>if h:i < len then Classical.choose (key i h) else ByteArray.empty,fun i hi=>by simp only [dif_pos hi];exact Classical.choose_spec (key i hi)⟩
  have hll:((List.range len).map f).length = len:=by simp
  refine ⟨some a,(List.range len).map f,cap,by rw [hll],by rw [hll];exact hl,rfl,by rw [hll];omega,fun _=>⟨a,rfl,fun j p hj=>?_⟩⟩
  rw [List.getElem?_map,Option.map_eq_some_iff] at hj
  obtain ⟨i,hi,rfl⟩:=hj
  have hil:=(List.getElem?_eq_some_iff.1 hi).1
  rw [List.length_range] at hil
  rw [List.getElem?_range hil,Option.some.injEq] at hi
  subst hi
  refine ⟨[.string (f j)],rfl,rfl,fun i u hu=>?_⟩
  show w.cell? (a.add (j * 1 + i)) = _
  rcases i with _ | i
  ·simp only [List.getElem?_cons_zero,Option.some.injEq] at hu;subst hu;rw [Nat.mul_one];exact hf j hil
  ·simp at hu
set_option maxRecDepth 100000 in
theorem open_ss1 {r:Reach} {b0:Nat} {v:Value} {d:DataW H} {p:List MemPlace} (hv:Value.okWide Try.prog w r b0 39 v) (h:DataW.Trod enc Try.prog w base spare held 39 v d p):∃ (A:Option Addr) (l:List ByteArray) (c:Nat),v = .slice A l.length c ∧ l.length ≤ c ∧ Kd.C Kd.string w A l.length l:=by
 obtain ⟨A,len,cap,rfl⟩:=okWide_slice Try.underlying39 hv
 obtain ⟨m,hm⟩:=h
 obtain ⟨A',l,c,e,r⟩:=open_ss hm
 have e2:[Value.slice A len cap] = [.slice A' l.length c]:=e
 injection e2 with e2 _
 exact ⟨A',l,c,e2,r⟩
end
end Go.Proofs.Ythpahlkhiknofaa.Row
namespace Go.Proofs.Ythpahlkhiknofaa.G
open Go.RowKit Go.Proofs.YthpahlkhiknofaaW.PrintWords Go.Proofs.YthpahlkhiknofaaW.PrintLast Go.Proofs.YthpahlkhiknofaaW.PrintMore
set_option maxHeartbeats 8000000
set_option maxRecDepth 100000
attribute [local go_sem] max2_int min2_int max_two min_two max_three min_three max_four min_four   -- for this text's walks alone
def numnahlaw01_short.f (a0:ByteArray):Option (ByteArray):=if 0 ≤ (mn (a0.size:Int) 40) then (if (mn (a0.size:Int) 40) ≤ (a0.size:Int) then (some (a0.extract 0 ((mn (a0.size:Int) 40):Int).toNat)) else (none)) else (none)
theorem numnahlaw01_short.calls (a0:ByteArray) (r:ByteArray) (w:World) (h:numnahlaw01_short.f a0 = some r) :
  Calls Try.prog 16 #[.string a0] w fun e w'=>e = .returned (.string r) ∧ Below w.heap.size w w':=by
 have HB:=Aside0.mk (Below.refl w.heap.size w)
 have H:(if 0 ≤ (mn (a0.size:Int) 40) then (if (mn (a0.size:Int) 40) ≤ (a0.size:Int) then (some (a0.extract 0 ((mn (a0.size:Int) 40):Int).toNat)) else (none)) else (none)) = some r:=h
 clear h
 obtain ⟨ji2,hji2⟩:∃ j_:Int,(mn (a0.size:Int) 40) = j_:=⟨_,rfl⟩
 replace H:(if 0 ≤ (ji2) then (if (ji2) ≤ (a0.size:Int) then (some (a0.extract 0 ((ji2):Int).toNat)) else (none)) else (none)) = some r:=by first | (rw [hji2] at H;exact H) | (simp only [hji2] at H ⊢;exact H)
 (try (have hji2h:ji2 ≤ 40:=by (rw [← hji2];unfold mn;(repeat' split) <;> omega)))
 (try (have hji2g:ji2 ≤ 64:=by omega))
 (try (have hji2l:0 ≤ ji2:=by (rw [← hji2];unfold mn;(repeat' split) <;> omega)))
 (try (have hji2m:0 ≤ ji2:=by omega))
 have hji2_:(if 40 < (a0.size:Int) then 40 else (a0.size:Int)) = ji2:=hji2
 by_cases c3:0 ≤ (ji2)
 case neg =>
  rw [if_neg c3] at H
  exact absurd H (by simp)
 rw [if_pos c3] at H
 have c3b0:=eq_true c3
 have c3b1:decide (0 ≤ (ji2)) = true:=decide_eq_true c3
 clear c3
 by_cases c4:(ji2) ≤ (a0.size:Int)
 case neg =>
  rw [if_neg c4] at H
  exact absurd H (by simp)
 rw [if_pos c4] at H
 have c4b0:=eq_true c4
 have c4b1:decide ((ji2) ≤ (a0.size:Int)) = true:=decide_eq_true c4
 clear c4
 obtain rfl:=Option.some.inj H
 go_enter Try.func16,Try.ntmps16
 go_wp2
 go_ret
 exact ⟨by first | rfl | (simp [errW_none,errW_some] <;> rfl) | (simp only [← hji2];first | rfl | (simp [errW_none,errW_some] <;> rfl)) | (simp [*,errW_none,errW_some] <;> rfl),by repeat (first | (with_reducible first | exact HB.out | apply below_alloc | apply pw_below_drewN | apply below_drew1) | exact HB.out)⟩
def numnahref01_Cube.l0:Nat → ByteArray → Int → Int → Option (Bool)
 | 0,_,_,_=>none
 | k + 1,x0,x1,x5=>if x5 < (x0.size:Int) then (if 0 ≤ x5 then (if (bt x0 x5) = 48 then (numnahref01_Cube.l0 k x0 x1 (wrap64 (x5 + 1))) else (if (bt x0 x5) = 49 then (numnahref01_Cube.l0 k x0 x1 (wrap64 (x5 + 1))) else (if (bt x0 x5) = 45 then (numnahref01_Cube.l0 k x0 x1 (wrap64 (x5 + 1))) else (some false)))) else (none)) else (some ((x0.size:Int) == x1))
def numnahref01_Cube.f (k:Nat) (a0:ByteArray) (a1:Int):Option (Bool):=numnahref01_Cube.l0 k a0 a1 0
theorem numnahref01_Cube.mono_l:∀ k,(∀ y0 y1 y2,LeO (numnahref01_Cube.l0 k y0 y1 y2) (numnahref01_Cube.l0 (k + 1) y0 y1 y2))
 | 0=>fun _ _ _ r h=>by simp [numnahref01_Cube.l0] at h
 | k + 1=>by
  have ih0:=numnahref01_Cube.mono_l k
  intro y0 y1 y2
  unfold numnahref01_Cube.l0
  repeat' first
  | (with_reducible exact ih0 _ _ _)
  | (with_reducible exact LeO.refl _)
  | (with_reducible exact LeO.none _)
  | (with_reducible refine LeO.ite ?_ ?_)
  | (with_reducible refine LeO.bind ?_ (fun _=>?_))
  | exact ih0 _ _ _
  | exact LeO.none _
  | refine LeO.ite ?_ ?_
  | refine LeO.bind ?_ (fun _=>?_)
theorem numnahref01_Cube.mono:∀ a0 a1 k,LeO (numnahref01_Cube.f k a0 a1) (numnahref01_Cube.f (k + 1) a0 a1):=by
 intro a0 a1 k
 have ih0:=numnahref01_Cube.mono_l k
 unfold numnahref01_Cube.f
 repeat' first
   | (with_reducible exact ih0 _ _ _)
   | (with_reducible exact LeO.refl _)
   | (with_reducible exact LeO.none _)
   | (with_reducible refine LeO.ite ?_ ?_)
   | (with_reducible refine LeO.bind ?_ (fun _=>?_))
   | exact ih0 _ _ _
   | exact LeO.none _
   | refine LeO.ite ?_ ?_
   | refine LeO.bind ?_ (fun _=>?_)
theorem numnahref01_Cube.calls (k:Nat) (a0:ByteArray) (a1:Int) (r:Bool) (w:World) (h:numnahref01_Cube.f k a0 a1 = some r) :
  Calls Try.prog 30 #[.string a0,.int .i64 a1] w fun e w'=>e = .returned (.bool r) ∧ Drawn0 w w':=by
 have H:(numnahref01_Cube.l0 k a0 a1 0) = some r:=h
 clear h
 have H':=Aside0.mk H
 clear H
 go_enter Try.func30,Try.ntmps30
 go_wp2
 go_loopg [5] k (fun kq v5 w'=>∃ (x5_1:Int),v5 = .int .i64 x5_1 ∧ Aside0 (numnahref01_Cube.l0 kq a0 a1 x5_1 = some r) ∧ Aside0 (kq ≤ k) ∧ Drawn0 w w')
 case atStart=>exact ⟨(0),(by first | rfl | (simp;done) | (simp [*];done)),H',⟨Nat.le_refl _⟩,by repeat (first | exact Drawn0.refl _ | apply Drawn0.step)⟩
 case round =>
  clear H'
  try clear p2
  obtain ⟨x5_1,rfl,HA,HK1,⟨m1,rfl⟩⟩:=hrel
  cases gk with
  | zero=>exact absurd HA.out (by simp [numnahref01_Cube.l0])
  | succ k1 =>
   have H:=HA.out
   clear HA
   simp only [numnahref01_Cube.l0] at H
   by_cases c3:x5_1 < (a0.size:Int)
   case neg =>
    rw [if_neg c3] at H
    have c3b0:decide (x5_1 < (a0.size:Int)) = false:=decide_eq_false c3
    clear c3
    obtain rfl:=Option.some.inj H
    go_wp2
    go_ret
    exact ⟨by first | rfl | (simp;done) | (simp [*];done),by repeat (first | exact Drawn0.refl _ | apply Drawn0.step)⟩
   rw [if_pos c3] at H
   have c3b0:decide (x5_1 < (a0.size:Int)) = true:=decide_eq_true c3
   clear c3
   by_cases c4:0 ≤ x5_1
   case neg =>
    rw [if_neg c4] at H
    exact absurd H (by simp)
   rw [if_pos c4] at H
   have c4b0:decide (0 ≤ x5_1) = true:=decide_eq_true c4
   clear c4
   by_cases c6:(bt a0 x5_1) = 48
   ·rw [if_pos c6] at H
    have c6b0:((bt a0 x5_1) == 48) = true:=beq_iff_eq.mpr c6
    have c6b1:((bt a0 x5_1) != 48) = false:=bne_eq_false_iff_eq.mpr c6
    clear c6
    have H':=Aside0.mk H
    clear H
    have p5:0 ≤ (x5_1:Int):=of_decide_eq_true (by first | (with_reducible assumption) | assumption)
    have q5:x5_1 < (a0.size:Int):=of_decide_eq_true (by first | (with_reducible assumption) | assumption)
    have hx5:=bt_at a0 x5_1
    replace p5:=eq_true p5
    replace q5:=eq_true q5
    go_wp2
    go_roundg k1
    case measure=>have:=HK1.out;omega
    case rel=>exact ⟨(wrap64 (x5_1 + 1)),(by first | rfl | (simp;done) | (simp [*];done)),H',⟨by have:=HK1.out;omega⟩,by repeat (first | exact Drawn0.refl _ | apply Drawn0.step)⟩
   rw [if_neg c6] at H
   have c6b0:((bt a0 x5_1) == 48) = false:=beq_eq_false_iff_ne.mpr c6
   have c6b1:((bt a0 x5_1) != 48) = true:=bne_iff_ne.mpr c6
   by_cases c8:(bt a0 x5_1) = 49
   ·rw [if_pos c8] at H
    have c8b0:((bt a0 x5_1) == 49) = true:=beq_iff_eq.mpr c8
    have c8b1:((bt a0 x5_1) != 49) = false:=bne_eq_false_iff_eq.mpr c8
    clear c8
    have H':=Aside0.mk H
    clear H
    have p5:0 ≤ (x5_1:Int):=of_decide_eq_true (by first | (with_reducible assumption) | assumption)
    have q5:x5_1 < (a0.size:Int):=of_decide_eq_true (by first | (with_reducible assumption) | assumption)
    have hx5:=bt_at a0 x5_1
    replace p5:=eq_true p5
    replace q5:=eq_true q5
    have p7:0 ≤ (x5_1:Int):=of_decide_eq_true (by first | (with_reducible assumption) | assumption)
    have q7:x5_1 < (a0.size:Int):=of_decide_eq_true (by first | (with_reducible assumption) | assumption)
    have hx7:=bt_at a0 x5_1
    replace p7:=eq_true p7
    replace q7:=eq_true q7
    go_wp2
    go_roundg k1
    case measure=>have:=HK1.out;omega
    case rel=>exact ⟨(wrap64 (x5_1 + 1)),(by first | rfl | (simp;done) | (simp [*];done)),H',⟨by have:=HK1.out;omega⟩,by repeat (first | exact Drawn0.refl _ | apply Drawn0.step)⟩
   rw [if_neg c8] at H
   have c8b0:((bt a0 x5_1) == 49) = false:=beq_eq_false_iff_ne.mpr c8
   have c8b1:((bt a0 x5_1) != 49) = true:=bne_iff_ne.mpr c8
   by_cases c10:(bt a0 x5_1) = 45
   case neg =>
    rw [if_neg c10] at H
    have c10b0:((bt a0 x5_1) == 45) = false:=beq_eq_false_iff_ne.mpr c10
    have c10b1:((bt a0 x5_1) != 45) = true:=bne_iff_ne.mpr c10
    obtain rfl:=Option.some.inj H
    have p5:0 ≤ (x5_1:Int):=of_decide_eq_true (by first | (with_reducible assumption) | assumption)
    have q5:x5_1 < (a0.size:Int):=of_decide_eq_true (by first | (with_reducible assumption) | assumption)
    have hx5:=bt_at a0 x5_1
    replace p5:=eq_true p5
    replace q5:=eq_true q5
    have p7:0 ≤ (x5_1:Int):=of_decide_eq_true (by first | (with_reducible assumption) | assumption)
    have q7:x5_1 < (a0.size:Int):=of_decide_eq_true (by first | (with_reducible assumption) | assumption)
    have hx7:=bt_at a0 x5_1
    replace p7:=eq_true p7
    replace q7:=eq_true q7
    have p9:0 ≤ (x5_1:Int):=of_decide_eq_true (by first | (with_reducible assumption) | assumption)
    have q9:x5_1 < (a0.size:Int):=of_decide_eq_true (by first | (with_reducible assumption) | assumption)
    have hx9:=bt_at a0 x5_1
    replace p9:=eq_true p9
    replace q9:=eq_true q9
    go_wp2
    go_ret
    exact ⟨by first | rfl | (simp;done) | (simp [*];done),by repeat (first | exact Drawn0.refl _ | apply Drawn0.step)⟩
   rw [if_pos c10] at H
   have c10b0:((bt a0 x5_1) == 45) = true:=beq_iff_eq.mpr c10
   have c10b1:((bt a0 x5_1) != 45) = false:=bne_eq_false_iff_eq.mpr c10
   clear c10
   have H':=Aside0.mk H
   clear H
   have p5:0 ≤ (x5_1:Int):=of_decide_eq_true (by first | (with_reducible assumption) | assumption)
   have q5:x5_1 < (a0.size:Int):=of_decide_eq_true (by first | (with_reducible assumption) | assumption)
   have hx5:=bt_at a0 x5_1
   replace p5:=eq_true p5
   replace q5:=eq_true q5
   have p7:0 ≤ (x5_1:Int):=of_decide_eq_true (by first | (with_reducible assumption) | assumption)
   have q7:x5_1 < (a0.size:Int):=of_decide_eq_true (by first | (with_reducible assumption) | assumption)
   have hx7:=bt_at a0 x5_1
   replace p7:=eq_true p7
   replace q7:=eq_true q7
   have p9:0 ≤ (x5_1:Int):=of_decide_eq_true (by first | (with_reducible assumption) | assumption)
   have q9:x5_1 < (a0.size:Int):=of_decide_eq_true (by first | (with_reducible assumption) | assumption)
   have hx9:=bt_at a0 x5_1
   replace p9:=eq_true p9
   replace q9:=eq_true q9
   go_wp2
   go_roundg k1
   case measure=>have:=HK1.out;omega
   case rel=>exact ⟨(wrap64 (x5_1 + 1)),(by first | rfl | (simp;done) | (simp [*];done)),H',⟨by have:=HK1.out;omega⟩,by repeat (first | exact Drawn0.refl _ | apply Drawn0.step)⟩
def card_newCube.l0:Nat → ByteArray → Int → Int → Int → Int → Option (Int × Int × Bool)
 | 0,_,_,_,_,_=>none
 | k + 1,x0,x7,x8,x227000,x227001=>if x8 < x7 then (if 0 ≤ x8 then (if x8 < (x0.size:Int) then (if (bt x0 x8) = 48 then (if x8 ≥ 5 then (some (0,0,false)) else (card_newCube.l0 k x0 x7 (wrap64 (x8 + 1)) (Go.bits .or .i64 x227000 (shl .i64 1 x8)) x227001)) else (if (bt x0 x8) = 49 then (if x8 ≥ 5 then (some (0,0,false)) else (card_newCube.l0 k x0 x7 (wrap64 (x8 + 1)) (Go.bits .or .i64 x227000 (shl .i64 1 x8)) (Go.bits .or .i64 x227001 (shl .i64 1 x8)))) else (if (bt x0 x8) = 45 then (if x8 ≥ 5 then (some (0,0,false)) else (card_newCube.l0 k x0 x7 (wrap64 (x8 + 1)) x227000 x227001)) else (some (0,0,false))))) else (none)) else (none)) else (some (x227000,x227001,(x0.toList != ([]:List UInt8))))
def card_newCube.f (k:Nat) (a0:ByteArray):Option (Int × Int × Bool):=card_newCube.l0 k a0 (a0.size:Int) 0 0 0
theorem card_newCube.mono_l:∀ k,(∀ y0 y1 y2 y3 y4,LeO (card_newCube.l0 k y0 y1 y2 y3 y4) (card_newCube.l0 (k + 1) y0 y1 y2 y3 y4))
 | 0=>fun _ _ _ _ _ r h=>by simp [card_newCube.l0] at h
 | k + 1=>by
  have ih0:=card_newCube.mono_l k
  intro y0 y1 y2 y3 y4
  unfold card_newCube.l0
  repeat' first
  | (with_reducible exact ih0 _ _ _ _ _)
  | (with_reducible exact LeO.refl _)
  | (with_reducible exact LeO.none _)
  | (with_reducible refine LeO.ite ?_ ?_)
  | (with_reducible refine LeO.bind ?_ (fun _=>?_))
  | exact ih0 _ _ _ _ _
  | exact LeO.none _
  | refine LeO.ite ?_ ?_
  | refine LeO.bind ?_ (fun _=>?_)
theorem card_newCube.mono:∀ a0 k,LeO (card_newCube.f k a0) (card_newCube.f (k + 1) a0):=by
 intro a0 k
 have ih0:=card_newCube.mono_l k
 unfold card_newCube.f
 repeat' first
   | (with_reducible exact ih0 _ _ _ _ _)
   | (with_reducible exact LeO.refl _)
   | (with_reducible exact LeO.none _)
   | (with_reducible refine LeO.ite ?_ ?_)
   | (with_reducible refine LeO.bind ?_ (fun _=>?_))
   | exact ih0 _ _ _ _ _
   | exact LeO.none _
   | refine LeO.ite ?_ ?_
   | refine LeO.bind ?_ (fun _=>?_)
theorem card_newCube.calls (k:Nat) (a0:ByteArray) (r1:Int) (r2:Int) (r3:Bool) (w:World) (h:card_newCube.f k a0 = some (r1,r2,r3)) :
  Calls Try.prog 69 #[.string a0] w fun e w'=>e = .returned (.tuple #[.agg #[.int .i64 r1,.int .i64 r2],.bool r3]) ∧ Below w.heap.size w w':=by
 have hu96:=Try.underlying96
 have HB:=Aside0.mk (Below.refl w.heap.size w)
 have H:(card_newCube.l0 k a0 (a0.size:Int) 0 0 0) = some (r1,r2,r3):=h
 clear h
 have H':=Aside0.mk H
 clear H
 go_enter Try.func69,Try.ntmps69
 go_wp2_with (first | ((with_reducible refine gate_dst (N:=2) rfl ?_);refine box_event ?hg (N:=2) ?hd (cs:=#[.int .i64 0,.int .i64 0]) (t:=96) ?hr ?_;(case hd=>rfl);(case hg=>rfl);(case hr=>first | (go_simp;done) | (go_simp;rfl));intro gb225 hg w2 hbox hb;have n0_:=Aside0.mk (below_step (by repeat (first | (with_reducible first | exact HB.out | apply below_alloc | apply pw_below_drewN | apply below_drew1) | exact HB.out)) hb);have n1_:=Aside0.mk (hbox);have n2_:=Aside0.mk ((by rw [hg];exact (below_size (by repeat (first | (with_reducible first | exact HB.out | apply below_alloc | apply pw_below_drewN | apply below_drew1) | exact HB.out))):w.heap.size ≤ gb225));have n3_:=Aside0.mk ((by rw [hg];exact (below_size (by repeat (first | (with_reducible first | exact HB.out | apply below_alloc | apply pw_below_drewN | apply below_drew1) | exact HB.out))):w.heap.size ≤ gb225));clear HB;have HB:=n0_;have BK225:=n1_;have GW225:=n2_;have GE225:=n3_;clear n0_ n1_ n2_ n3_;clear hb hbox hg) | ((with_reducible refine gate_dst (N:=4) rfl ?_);refine box_event ?hg (N:=4) ?hd (cs:=#[.int .i64 0,.int .i64 0]) (t:=96) ?hr ?_;(case hd=>rfl);(case hg=>rfl);(case hr=>first | (go_simp;done) | (go_simp;rfl));intro gb226 hg w3 hbox hb;have n0_:=Aside0.mk (blk_below (g:=gb225) (o:=.cells #[.int .i64 0,.int .i64 0] 96 (0,0)) (by (with_reducible repeat (first | refine blk_drewN ?_ _ | refine blk_drew ?_ | refine blk_alloc ?_ _));exact BK225.out) hb);have n1_:=Aside0.mk (below_step (by repeat (first | (with_reducible first | exact HB.out | apply below_alloc | apply pw_below_drewN | apply below_drew1 | refine below_set ?_ GE225.out) | exact HB.out)) hb);have n2_:=Aside0.mk (hbox);have n3_:=Aside0.mk ((by rw [hg];exact (below_size (by repeat (first | (with_reducible first | exact HB.out | apply below_alloc | apply pw_below_drewN | apply below_drew1 | refine below_set ?_ GE225.out) | exact HB.out))):w.heap.size ≤ gb226));have n4_:=Aside0.mk ((by rw [hg];exact (below_size (by repeat (first | (with_reducible first | exact HB.out | apply below_alloc | apply pw_below_drewN | apply below_drew1 | refine below_set ?_ GE225.out) | exact HB.out))):w.heap.size ≤ gb226));have n5_:=Aside0.mk ((by rw [hg];exact Nat.ne_of_lt (blk_lt (g:=gb225) (o:=.cells #[.int .i64 0,.int .i64 0] 96 (0,0)) (by (with_reducible repeat (first | refine blk_drewN ?_ _ | refine blk_drew ?_ | refine blk_alloc ?_ _));exact BK225.out)):gb225 ≠ gb226));have n6_:=Aside0.mk ((by rw [hg];exact Nat.ne_of_gt (blk_lt (g:=gb225) (o:=.cells #[.int .i64 0,.int .i64 0] 96 (0,0)) (by (with_reducible repeat (first | refine blk_drewN ?_ _ | refine blk_drew ?_ | refine blk_alloc ?_ _));exact BK225.out)):gb226 ≠ gb225));clear BK225;clear HB;have BK225:=n0_;have HB:=n1_;have BK226:=n2_;have GW226:=n3_;have GE226:=n4_;have NB225_226:=n5_;have NB226_225:=n6_;clear n0_ n1_ n2_ n3_ n4_ n5_ n6_;clear hb hbox hg))
 go_loopg [8] k (fun kq v8 w'=>∃ (x8_1:Int) (x226000_1:Int) (x226001_1:Int) (x227000_1:Int) (x227001_1:Int),v8 = .int .i64 x8_1 ∧ Aside0 (card_newCube.l0 kq a0 (a0.size:Int) x8_1 x227000_1 x227001_1 = some (r1,r2,r3)) ∧ Aside0 (kq ≤ k) ∧ Aside0 (w'.heap[gb225]? = some (.cells #[.int .i64 x226000_1,.int .i64 x226001_1] 96 (0,0))) ∧ Aside0 (w'.heap[gb226]? = some (.cells #[.int .i64 x227000_1,.int .i64 x227001_1] 96 (0,0))) ∧ Aside0 (Below w.heap.size w w'))
 case atStart=>exact ⟨(0),(0),(0),(0),(0),(by first | rfl | (simp;done) | (simp [*];done)),H',⟨Nat.le_refl _⟩,⟨by (with_reducible repeat (first | refine blk_drewN ?_ _ | refine blk_drew ?_ | refine blk_alloc ?_ _));exact BK225.out⟩,⟨by (with_reducible repeat (first | refine blk_drewN ?_ _ | refine blk_drew ?_ | refine blk_alloc ?_ _));exact BK226.out⟩,⟨by repeat (first | (with_reducible first | exact HB.out | apply below_alloc | apply pw_below_drewN | apply below_drew1 | refine below_set ?_ GE225.out | refine below_set ?_ GE226.out) | exact HB.out)⟩⟩
 case round =>
  clear H'
  try clear p2
  obtain ⟨x8_1,x226000_1,x226001_1,x227000_1,x227001_1,rfl,HA,HK1,BK225,BK226,HB⟩:=hrel
  cases gk with
  | zero=>exact absurd HA.out (by simp [card_newCube.l0])
  | succ k1 =>
   have H:=HA.out
   clear HA
   simp only [card_newCube.l0] at H
   by_cases c4:x8_1 < (a0.size:Int)
   case neg =>
    rw [if_neg c4] at H
    have c4b0:decide (x8_1 < (a0.size:Int)) = false:=decide_eq_false c4
    clear c4
    simp only [Option.some.injEq,Prod.mk.injEq] at H
    obtain ⟨rfl,rfl,rfl⟩:=H
    have hnb41:=NB226_225.out
    have hnc41:=NB225_226.out
    have hcz42_0:wr.cell? ⟨gb226,0,none⟩ = some (.int .i64 x227000_1):=(blk_cell BK226.out 0).trans rfl
    have hcz42_1:wr.cell? ⟨gb226,1,none⟩ = some (.int .i64 x227001_1):=(blk_cell BK226.out 1).trans rfl
    have hfz42_0:=blk_frozen BK226.out 0
    have hfz42_1:=blk_frozen BK226.out 1
    have hcz43_0:wr.cell? ⟨gb225,0,none⟩ = some (.int .i64 x226000_1):=(blk_cell BK225.out 0).trans rfl
    have hcz43_1:wr.cell? ⟨gb225,1,none⟩ = some (.int .i64 x226001_1):=(blk_cell BK225.out 1).trans rfl
    have hfz43_0:=blk_frozen BK225.out 0
    have hfz43_1:=blk_frozen BK225.out 1
    go_wp2
    refine bodyPost_ret (results_ct rfl _ _ gb225 96 #[.int .i64 x227000_1,.int .i64 x227001_1] (0,0) _ rfl (by (with_reducible repeat (first | refine blk_drewN ?_ _ | refine blk_drew ?_ | refine blk_alloc ?_ _));refine blk_put (cs:=#[.int .i64 x227000_1,.int .i64 x226001_1]) ?_ 1 _ rfl;(with_reducible repeat (first | refine blk_drewN ?_ _ | refine blk_drew ?_ | refine blk_alloc ?_ _));refine blk_put (cs:=#[.int .i64 x226000_1,.int .i64 x226001_1]) ?_ 0 _ rfl;(with_reducible repeat (first | refine blk_drewN ?_ _ | refine blk_drew ?_ | refine blk_alloc ?_ _));exact BK225.out) Try.underlying96 rfl (by kernel_rfl)) rfl ?_
    exact ⟨by first | rfl | (simp [errW_none,errW_some] <;> rfl) | (simp [*,errW_none,errW_some] <;> rfl) | (simp;cases a0.toList <;> rfl),by repeat (first | (with_reducible first | exact HB.out | apply below_alloc | apply pw_below_drewN | apply below_drew1 | refine below_set ?_ GE225.out | refine below_set ?_ GE226.out) | exact HB.out)⟩
   rw [if_pos c4] at H
   have c4b0:decide (x8_1 < (a0.size:Int)) = true:=decide_eq_true c4
   clear c4
   by_cases c5:0 ≤ x8_1
   case neg =>
    rw [if_neg c5] at H
    exact absurd H (by simp)
   rw [if_pos c5] at H
   have c5b0:decide (0 ≤ x8_1) = true:=decide_eq_true c5
   clear c5
   by_cases c6:x8_1 < (a0.size:Int)
   case neg =>
    rw [if_neg c6] at H
    exact absurd H (by simp)
   rw [if_pos c6] at H
   have c6b0:decide (x8_1 < (a0.size:Int)) = true:=decide_eq_true c6
   clear c6
   by_cases c8:(bt a0 x8_1) = 48
   ·rw [if_pos c8] at H
    have c8b0:((bt a0 x8_1) == 48) = true:=beq_iff_eq.mpr c8
    have c8b1:((bt a0 x8_1) != 48) = false:=bne_eq_false_iff_eq.mpr c8
    clear c8
    have c9b0:=eq_true (of_decide_eq_true (by first | (with_reducible assumption) | assumption):0 ≤ x8_1)
    obtain ⟨ji10,hji10⟩:∃ j_:Int,(shl .i64 1 x8_1) = j_:=⟨_,rfl⟩
    replace H:(if x8_1 ≥ 5 then (some (0,0,false)) else (card_newCube.l0 k1 a0 (a0.size:Int) (wrap64 (x8_1 + 1)) (Go.bits .or .i64 x227000_1 (ji10)) x227001_1)) = some (r1,r2,r3):=by first | (rw [hji10] at H;exact H) | (simp only [hji10] at H ⊢;exact H)
    have hji10_:(IntKind.i64.wrap (1 * 2 ^ min x8_1.toNat 64)) = ji10:=hji10
    have hji10z:x8_1 ≤ 64 → (IntKind.i64.wrap (1 * 2 ^ x8_1.toNat)) = ji10:=shl_small hji10
    have hji10u:(IntKind.i64.wrap (2 ^ min x8_1.toNat 64)) = ji10:=by have h_:=hji10_;rw [Int.one_mul] at h_;exact h_
    have hji10v:x8_1 ≤ 64 → (IntKind.i64.wrap (2 ^ x8_1.toNat)) = ji10:=fun hle_=>by have h_:=hji10z hle_;rw [Int.one_mul] at h_;exact h_
    have hji10y:(wrap64 (1 * 2 ^ min x8_1.toNat 64)) = ji10:=(i64_w _).symm.trans hji10_
    have hji10x:x8_1 ≤ 64 → (wrap64 (1 * 2 ^ x8_1.toNat)) = ji10:=fun h_=>(i64_w _).symm.trans (hji10z h_)
    by_cases c11:x8_1 ≥ 5
    case neg =>
     rw [if_neg c11] at H
     have c11b0:decide (5 ≤ x8_1) = false:=decide_eq_false c11
     clear c11
     have H':=Aside0.mk H
     clear H
     have p7:0 ≤ (x8_1:Int):=of_decide_eq_true (by first | (with_reducible assumption) | assumption)
     have q7:x8_1 < (a0.size:Int):=of_decide_eq_true (by first | (with_reducible assumption) | assumption)
     have hx7:=bt_at a0 x8_1
     replace p7:=eq_true p7
     replace q7:=eq_true q7
     try go_wp2
     have n0_:=Aside0.mk (blk_drew BK225.out)
     have n1_:=Aside0.mk (blk_drew BK226.out)
     have n2_:=Aside0.mk (below_drew1 HB.out)
     clear BK225
     clear BK226
     clear HB
     have BK225:=n0_
     have BK226:=n1_
     have HB:=n2_
     clear n0_ n1_ n2_
     refine start_ (n:=7) (S:=fun w'=>w'.cell? ⟨gb226,0,none⟩ = some (.int .i64 x227000_1) ∧ w'.cell? ⟨gb226,1,none⟩ = some (.int .i64 x227001_1)) (ds:=[6]) #[false,false,false,false,false,false,false] (by kernel_rfl) rfl rfl ⟨(blk_cell BK226.out 0).trans rfl,(blk_cell BK226.out 1).trans rfl⟩ (fun hHeld=>?_)
     generalize wr.drew = w16 at BK225 BK226 HB hHeld ⊢
     refine pure_ (i:=0) (N:=some 17) (v:=?_) (a':=?_) #[true,false,false,false,false,false,false] rfl rfl (by kernel_rfl) (fun _ _ _ h=>h) (Or.inl ⟨by rfl,?_⟩) ?_ ?_
     rotate_left
     ·intro w'
      go_simp
      with_reducible rfl
     rotate_left
     ·simp only [Act.put,List.setIfInBounds_toArray,List.set_cons_zero,List.set_cons_succ,i64_w,i32_w]
      rfl
     refine pure_ (i:=2) (N:=some 19) (v:=?_) (a':=?_) #[true,false,true,false,false,false,false] rfl rfl (by kernel_rfl) (fun _ _ _ h=>h) (Or.inl ⟨by rfl,?_⟩) ?_ ?_
     rotate_left
     ·intro w'
      go_simp
      with_reducible rfl
     rotate_left
     ·simp only [Act.put,List.setIfInBounds_toArray,List.set_cons_zero,List.set_cons_succ,i64_w,i32_w]
      rfl
     refine pure_ (i:=3) (N:=some 20) (v:=?_) (a':=?_) #[true,false,true,true,false,false,false] rfl rfl (by kernel_rfl) (fun _ _ _ h=>h) (Or.inl ⟨by rfl,?_⟩) ?_ ?_
     rotate_left
     ·intro w'
      go_simp
      with_reducible rfl
     rotate_left
     ·simp only [Act.put,List.setIfInBounds_toArray,List.set_cons_zero,List.set_cons_succ,i64_w,i32_w]
      rfl
     refine take_ (i:=1) (N:=some 18) (v:=?_) (a':=?_) #[true,true,true,true,false,false,false] rfl rfl (by kernel_rfl) (fun _ _ _ h=>h) (Or.inl ⟨by rfl,?_⟩) hHeld ?_ ?_
     rotate_left
     ·rintro w' ⟨s0,s1⟩
      go_simp
      with_reducible rfl
     rotate_left
     ·simp only [Act.put,List.setIfInBounds_toArray,List.set_cons_zero,List.set_cons_succ,i64_w,i32_w]
      rfl
     refine pure_ (i:=4) (N:=some 21) (v:=?_) (a':=?_) #[true,true,true,true,true,false,false] rfl rfl (by kernel_rfl) (fun _ _ _ h=>h) (Or.inl ⟨by rfl,?_⟩) ?_ ?_
     rotate_left
     ·intro w'
      go_simp
      with_reducible rfl
     rotate_left
     ·simp only [Act.put,List.setIfInBounds_toArray,List.set_cons_zero,List.set_cons_succ,i64_w,i32_w]
      rfl
     refine pure_ (i:=5) (N:=some 22) (v:=?_) (a':=?_) #[true,true,true,true,true,true,false] rfl rfl (by kernel_rfl) (fun _ _ _ h=>h) (Or.inl ⟨by rfl,?_⟩) ?_ ?_
     rotate_left
     ·intro w'
      go_simp
      with_reducible rfl
     rotate_left
     ·simp only [Act.put,List.setIfInBounds_toArray,List.set_cons_zero,List.set_cons_succ,i64_w,i32_w]
      rfl
     refine last_ (i:=6) (N:=none) #[true,true,true,true,true,true,true] rfl rfl (by kernel_rfl) (by decide) (fun K hK=>?_)
     have hs17:w16.cell? ⟨gb226,0,none⟩ = some (.int .i64 x227000_1):=(blk_cell BK226.out 0).trans rfl
     have hfs17:=blk_frozen BK226.out 0
     have hns17_0:=NB225_226.out
     have hms17_0:=NB226_225.out
     refine skip_ (w1:=?_) (by rfl) rfl ?_ ?_
     rotate_left
     ·go_simp
      rfl
     refine hK.out _ _ ?_
     clear hK K
     refine done_ (by kernel_rfl) ?_
     try go_wp2
     go_roundg k1
     case measure=>have:=HK1.out;omega
     case rel=>exact ⟨(wrap64 (x8_1 + 1)),(x226000_1),(x226001_1),(Go.bits .or .i64 x227000_1 (ji10)),(x227001_1),(by first | rfl | (simp;done) | (simp [*];done)),H',⟨by have:=HK1.out;omega⟩,⟨by (with_reducible repeat (first | refine blk_drewN ?_ _ | refine blk_drew ?_ | refine blk_alloc ?_ _));refine blk_far ?_ NB225_226.out _;(with_reducible repeat (first | refine blk_drewN ?_ _ | refine blk_drew ?_ | refine blk_alloc ?_ _));exact BK225.out⟩,⟨by (with_reducible repeat (first | refine blk_drewN ?_ _ | refine blk_drew ?_ | refine blk_alloc ?_ _));refine blk_put (cs:=#[.int .i64 x227000_1,.int .i64 x227001_1]) ?_ 0 _ rfl;(with_reducible repeat (first | refine blk_drewN ?_ _ | refine blk_drew ?_ | refine blk_alloc ?_ _));exact BK226.out⟩,⟨by repeat (first | (with_reducible first | exact HB.out | apply below_alloc | apply pw_below_drewN | apply below_drew1 | refine below_set ?_ GE225.out | refine below_set ?_ GE226.out) | exact HB.out)⟩⟩
    rw [if_pos c11] at H
    have c11b0:decide (5 ≤ x8_1) = true:=decide_eq_true c11
    clear c11
    simp only [Option.some.injEq,Prod.mk.injEq] at H
    obtain ⟨rfl,rfl,rfl⟩:=H
    have p7:0 ≤ (x8_1:Int):=of_decide_eq_true (by first | (with_reducible assumption) | assumption)
    have q7:x8_1 < (a0.size:Int):=of_decide_eq_true (by first | (with_reducible assumption) | assumption)
    have hx7:=bt_at a0 x8_1
    replace p7:=eq_true p7
    replace q7:=eq_true q7
    try go_wp2
    have n0_:=Aside0.mk (blk_drew BK225.out)
    have n1_:=Aside0.mk (blk_drew BK226.out)
    have n2_:=Aside0.mk (below_drew1 HB.out)
    clear BK225
    clear BK226
    clear HB
    have BK225:=n0_
    have BK226:=n1_
    have HB:=n2_
    clear n0_ n1_ n2_
    refine start_ (n:=7) (S:=fun w'=>w'.cell? ⟨gb226,0,none⟩ = some (.int .i64 x227000_1) ∧ w'.cell? ⟨gb226,1,none⟩ = some (.int .i64 x227001_1)) (ds:=[6]) #[false,false,false,false,false,false,false] (by kernel_rfl) rfl rfl ⟨(blk_cell BK226.out 0).trans rfl,(blk_cell BK226.out 1).trans rfl⟩ (fun hHeld=>?_)
    generalize wr.drew = w12 at BK225 BK226 HB hHeld ⊢
    refine pure_ (i:=0) (N:=some 17) (v:=?_) (a':=?_) #[true,false,false,false,false,false,false] rfl rfl (by kernel_rfl) (fun _ _ _ h=>h) (Or.inl ⟨by rfl,?_⟩) ?_ ?_
    rotate_left
    ·intro w'
     go_simp
     with_reducible rfl
    rotate_left
    ·simp only [Act.put,List.setIfInBounds_toArray,List.set_cons_zero,List.set_cons_succ,i64_w,i32_w]
     rfl
    refine pure_ (i:=2) (N:=some 19) (v:=?_) (a':=?_) #[true,false,true,false,false,false,false] rfl rfl (by kernel_rfl) (fun _ _ _ h=>h) (Or.inl ⟨by rfl,?_⟩) ?_ ?_
    rotate_left
    ·intro w'
     go_simp
     with_reducible rfl
    rotate_left
    ·simp only [Act.put,List.setIfInBounds_toArray,List.set_cons_zero,List.set_cons_succ,i64_w,i32_w]
     rfl
    refine pure_ (i:=3) (N:=some 20) (v:=?_) (a':=?_) #[true,false,true,true,false,false,false] rfl rfl (by kernel_rfl) (fun _ _ _ h=>h) (Or.inl ⟨by rfl,?_⟩) ?_ ?_
    rotate_left
    ·intro w'
     go_simp
     with_reducible rfl
    rotate_left
    ·simp only [Act.put,List.setIfInBounds_toArray,List.set_cons_zero,List.set_cons_succ,i64_w,i32_w]
     rfl
    refine take_ (i:=1) (N:=some 18) (v:=?_) (a':=?_) #[true,true,true,true,false,false,false] rfl rfl (by kernel_rfl) (fun _ _ _ h=>h) (Or.inl ⟨by rfl,?_⟩) hHeld ?_ ?_
    rotate_left
    ·rintro w' ⟨s0,s1⟩
     go_simp
     with_reducible rfl
    rotate_left
    ·simp only [Act.put,List.setIfInBounds_toArray,List.set_cons_zero,List.set_cons_succ,i64_w,i32_w]
     rfl
    refine pure_ (i:=4) (N:=some 21) (v:=?_) (a':=?_) #[true,true,true,true,true,false,false] rfl rfl (by kernel_rfl) (fun _ _ _ h=>h) (Or.inl ⟨by rfl,?_⟩) ?_ ?_
    rotate_left
    ·intro w'
     go_simp
     with_reducible rfl
    rotate_left
    ·simp only [Act.put,List.setIfInBounds_toArray,List.set_cons_zero,List.set_cons_succ,i64_w,i32_w]
     rfl
    refine pure_ (i:=5) (N:=some 22) (v:=?_) (a':=?_) #[true,true,true,true,true,true,false] rfl rfl (by kernel_rfl) (fun _ _ _ h=>h) (Or.inl ⟨by rfl,?_⟩) ?_ ?_
    rotate_left
    ·intro w'
     go_simp
     with_reducible rfl
    rotate_left
    ·simp only [Act.put,List.setIfInBounds_toArray,List.set_cons_zero,List.set_cons_succ,i64_w,i32_w]
     rfl
    refine last_ (i:=6) (N:=none) #[true,true,true,true,true,true,true] rfl rfl (by kernel_rfl) (by decide) (fun K hK=>?_)
    have hs13:w12.cell? ⟨gb226,0,none⟩ = some (.int .i64 x227000_1):=(blk_cell BK226.out 0).trans rfl
    have hfs13:=blk_frozen BK226.out 0
    have hns13_0:=NB225_226.out
    have hms13_0:=NB226_225.out
    refine skip_ (w1:=?_) (by rfl) rfl ?_ ?_
    rotate_left
    ·go_simp
     rfl
    refine hK.out _ _ ?_
    clear hK K
    refine done_ (by kernel_rfl) ?_
    have hnb14:=NB225_226.out
    have hnc14:=NB226_225.out
    have hcz15_0:w12.cell? ⟨gb225,0,none⟩ = some (.int .i64 x226000_1):=(blk_cell BK225.out 0).trans rfl
    have hcz15_1:w12.cell? ⟨gb225,1,none⟩ = some (.int .i64 x226001_1):=(blk_cell BK225.out 1).trans rfl
    have hfz15_0:=blk_frozen BK225.out 0
    have hfz15_1:=blk_frozen BK225.out 1
    try go_wp2
    refine bodyPost_ret (results_ct rfl _ _ gb225 96 #[.int .i64 0,.int .i64 0] (0,0) _ rfl (by (with_reducible repeat (first | refine blk_drewN ?_ _ | refine blk_drew ?_ | refine blk_alloc ?_ _));refine blk_put (cs:=#[.int .i64 0,.int .i64 x226001_1]) ?_ 1 _ rfl;(with_reducible repeat (first | refine blk_drewN ?_ _ | refine blk_drew ?_ | refine blk_alloc ?_ _));refine blk_put (cs:=#[.int .i64 x226000_1,.int .i64 x226001_1]) ?_ 0 _ rfl;(with_reducible repeat (first | refine blk_drewN ?_ _ | refine blk_drew ?_ | refine blk_alloc ?_ _));refine blk_far ?_ NB225_226.out _;(with_reducible repeat (first | refine blk_drewN ?_ _ | refine blk_drew ?_ | refine blk_alloc ?_ _));exact BK225.out) Try.underlying96 rfl (by kernel_rfl)) rfl ?_
    exact ⟨by first | rfl | (simp [errW_none,errW_some] <;> rfl) | (simp only [← hji10];first | rfl | (simp [errW_none,errW_some] <;> rfl)) | (simp [*,errW_none,errW_some] <;> rfl) | (simp;cases a0.toList <;> rfl),by repeat (first | (with_reducible first | exact HB.out | apply below_alloc | apply pw_below_drewN | apply below_drew1 | refine below_set ?_ GE225.out | refine below_set ?_ GE226.out) | exact HB.out)⟩
   rw [if_neg c8] at H
   have c8b0:((bt a0 x8_1) == 48) = false:=beq_eq_false_iff_ne.mpr c8
   have c8b1:((bt a0 x8_1) != 48) = true:=bne_iff_ne.mpr c8
   by_cases c18:(bt a0 x8_1) = 49
   case neg =>
    rw [if_neg c18] at H
    have c18b0:((bt a0 x8_1) == 49) = false:=beq_eq_false_iff_ne.mpr c18
    have c18b1:((bt a0 x8_1) != 49) = true:=bne_iff_ne.mpr c18
    by_cases c35:(bt a0 x8_1) = 45
    case neg =>
     rw [if_neg c35] at H
     have c35b0:((bt a0 x8_1) == 45) = false:=beq_eq_false_iff_ne.mpr c35
     have c35b1:((bt a0 x8_1) != 45) = true:=bne_iff_ne.mpr c35
     simp only [Option.some.injEq,Prod.mk.injEq] at H
     obtain ⟨rfl,rfl,rfl⟩:=H
     have p7:0 ≤ (x8_1:Int):=of_decide_eq_true (by first | (with_reducible assumption) | assumption)
     have q7:x8_1 < (a0.size:Int):=of_decide_eq_true (by first | (with_reducible assumption) | assumption)
     have hx7:=bt_at a0 x8_1
     replace p7:=eq_true p7
     replace q7:=eq_true q7
     have hnb39:=NB225_226.out
     have hnc39:=NB226_225.out
     have hcz40_0:wr.cell? ⟨gb225,0,none⟩ = some (.int .i64 x226000_1):=(blk_cell BK225.out 0).trans rfl
     have hcz40_1:wr.cell? ⟨gb225,1,none⟩ = some (.int .i64 x226001_1):=(blk_cell BK225.out 1).trans rfl
     have hfz40_0:=blk_frozen BK225.out 0
     have hfz40_1:=blk_frozen BK225.out 1
     go_wp2
     refine bodyPost_ret (results_ct rfl _ _ gb225 96 #[.int .i64 0,.int .i64 0] (0,0) _ rfl (by (with_reducible repeat (first | refine blk_drewN ?_ _ | refine blk_drew ?_ | refine blk_alloc ?_ _));refine blk_put (cs:=#[.int .i64 0,.int .i64 x226001_1]) ?_ 1 _ rfl;(with_reducible repeat (first | refine blk_drewN ?_ _ | refine blk_drew ?_ | refine blk_alloc ?_ _));refine blk_put (cs:=#[.int .i64 x226000_1,.int .i64 x226001_1]) ?_ 0 _ rfl;(with_reducible repeat (first | refine blk_drewN ?_ _ | refine blk_drew ?_ | refine blk_alloc ?_ _));exact BK225.out) Try.underlying96 rfl (by kernel_rfl)) rfl ?_
     exact ⟨by first | rfl | (simp [errW_none,errW_some] <;> rfl) | (simp [*,errW_none,errW_some] <;> rfl) | (simp;cases a0.toList <;> rfl),by repeat (first | (with_reducible first | exact HB.out | apply below_alloc | apply pw_below_drewN | apply below_drew1 | refine below_set ?_ GE225.out | refine below_set ?_ GE226.out) | exact HB.out)⟩
    rw [if_pos c35] at H
    have c35b0:((bt a0 x8_1) == 45) = true:=beq_iff_eq.mpr c35
    have c35b1:((bt a0 x8_1) != 45) = false:=bne_eq_false_iff_eq.mpr c35
    clear c35
    by_cases c36:x8_1 ≥ 5
    case neg =>
     rw [if_neg c36] at H
     have c36b0:decide (5 ≤ x8_1) = false:=decide_eq_false c36
     clear c36
     have H':=Aside0.mk H
     clear H
     have p7:0 ≤ (x8_1:Int):=of_decide_eq_true (by first | (with_reducible assumption) | assumption)
     have q7:x8_1 < (a0.size:Int):=of_decide_eq_true (by first | (with_reducible assumption) | assumption)
     have hx7:=bt_at a0 x8_1
     replace p7:=eq_true p7
     replace q7:=eq_true q7
     go_wp2
     go_roundg k1
     case measure=>have:=HK1.out;omega
     case rel=>exact ⟨(wrap64 (x8_1 + 1)),(x226000_1),(x226001_1),(x227000_1),(x227001_1),(by first | rfl | (simp;done) | (simp [*];done)),H',⟨by have:=HK1.out;omega⟩,⟨by (with_reducible repeat (first | refine blk_drewN ?_ _ | refine blk_drew ?_ | refine blk_alloc ?_ _));exact BK225.out⟩,⟨by (with_reducible repeat (first | refine blk_drewN ?_ _ | refine blk_drew ?_ | refine blk_alloc ?_ _));exact BK226.out⟩,⟨by repeat (first | (with_reducible first | exact HB.out | apply below_alloc | apply pw_below_drewN | apply below_drew1 | refine below_set ?_ GE225.out | refine below_set ?_ GE226.out) | exact HB.out)⟩⟩
    rw [if_pos c36] at H
    have c36b0:decide (5 ≤ x8_1) = true:=decide_eq_true c36
    clear c36
    simp only [Option.some.injEq,Prod.mk.injEq] at H
    obtain ⟨rfl,rfl,rfl⟩:=H
    have p7:0 ≤ (x8_1:Int):=of_decide_eq_true (by first | (with_reducible assumption) | assumption)
    have q7:x8_1 < (a0.size:Int):=of_decide_eq_true (by first | (with_reducible assumption) | assumption)
    have hx7:=bt_at a0 x8_1
    replace p7:=eq_true p7
    replace q7:=eq_true q7
    have hnb37:=NB225_226.out
    have hnc37:=NB226_225.out
    have hcz38_0:wr.cell? ⟨gb225,0,none⟩ = some (.int .i64 x226000_1):=(blk_cell BK225.out 0).trans rfl
    have hcz38_1:wr.cell? ⟨gb225,1,none⟩ = some (.int .i64 x226001_1):=(blk_cell BK225.out 1).trans rfl
    have hfz38_0:=blk_frozen BK225.out 0
    have hfz38_1:=blk_frozen BK225.out 1
    go_wp2
    refine bodyPost_ret (results_ct rfl _ _ gb225 96 #[.int .i64 0,.int .i64 0] (0,0) _ rfl (by (with_reducible repeat (first | refine blk_drewN ?_ _ | refine blk_drew ?_ | refine blk_alloc ?_ _));refine blk_put (cs:=#[.int .i64 0,.int .i64 x226001_1]) ?_ 1 _ rfl;(with_reducible repeat (first | refine blk_drewN ?_ _ | refine blk_drew ?_ | refine blk_alloc ?_ _));refine blk_put (cs:=#[.int .i64 x226000_1,.int .i64 x226001_1]) ?_ 0 _ rfl;(with_reducible repeat (first | refine blk_drewN ?_ _ | refine blk_drew ?_ | refine blk_alloc ?_ _));exact BK225.out) Try.underlying96 rfl (by kernel_rfl)) rfl ?_
    exact ⟨by first | rfl | (simp [errW_none,errW_some] <;> rfl) | (simp [*,errW_none,errW_some] <;> rfl) | (simp;cases a0.toList <;> rfl),by repeat (first | (with_reducible first | exact HB.out | apply below_alloc | apply pw_below_drewN | apply below_drew1 | refine below_set ?_ GE225.out | refine below_set ?_ GE226.out) | exact HB.out)⟩
   rw [if_pos c18] at H
   have c18b0:((bt a0 x8_1) == 49) = true:=beq_iff_eq.mpr c18
   have c18b1:((bt a0 x8_1) != 49) = false:=bne_eq_false_iff_eq.mpr c18
   clear c18
   have c19b0:=eq_true (of_decide_eq_true (by first | (with_reducible assumption) | assumption):0 ≤ x8_1)
   obtain ⟨ji20,hji20⟩:∃ j_:Int,(shl .i64 1 x8_1) = j_:=⟨_,rfl⟩
   replace H:(if x8_1 ≥ 5 then (some (0,0,false)) else (card_newCube.l0 k1 a0 (a0.size:Int) (wrap64 (x8_1 + 1)) (Go.bits .or .i64 x227000_1 (ji20)) (Go.bits .or .i64 x227001_1 (ji20)))) = some (r1,r2,r3):=by first | (rw [hji20] at H;exact H) | (simp only [hji20] at H ⊢;exact H)
   have hji20_:(IntKind.i64.wrap (1 * 2 ^ min x8_1.toNat 64)) = ji20:=hji20
   have hji20z:x8_1 ≤ 64 → (IntKind.i64.wrap (1 * 2 ^ x8_1.toNat)) = ji20:=shl_small hji20
   have hji20u:(IntKind.i64.wrap (2 ^ min x8_1.toNat 64)) = ji20:=by have h_:=hji20_;rw [Int.one_mul] at h_;exact h_
   have hji20v:x8_1 ≤ 64 → (IntKind.i64.wrap (2 ^ x8_1.toNat)) = ji20:=fun hle_=>by have h_:=hji20z hle_;rw [Int.one_mul] at h_;exact h_
   have hji20y:(wrap64 (1 * 2 ^ min x8_1.toNat 64)) = ji20:=(i64_w _).symm.trans hji20_
   have hji20x:x8_1 ≤ 64 → (wrap64 (1 * 2 ^ x8_1.toNat)) = ji20:=fun h_=>(i64_w _).symm.trans (hji20z h_)
   have c21b0:=eq_true (of_decide_eq_true (by first | (with_reducible assumption) | assumption):0 ≤ x8_1)
   by_cases c22:x8_1 ≥ 5
   case neg =>
    rw [if_neg c22] at H
    have c22b0:decide (5 ≤ x8_1) = false:=decide_eq_false c22
    clear c22
    have H':=Aside0.mk H
    clear H
    have p7:0 ≤ (x8_1:Int):=of_decide_eq_true (by first | (with_reducible assumption) | assumption)
    have q7:x8_1 < (a0.size:Int):=of_decide_eq_true (by first | (with_reducible assumption) | assumption)
    have hx7:=bt_at a0 x8_1
    replace p7:=eq_true p7
    replace q7:=eq_true q7
    try go_wp2
    have n0_:=Aside0.mk (blk_drew BK225.out)
    have n1_:=Aside0.mk (blk_drew BK226.out)
    have n2_:=Aside0.mk (below_drew1 HB.out)
    clear BK225
    clear BK226
    clear HB
    have BK225:=n0_
    have BK226:=n1_
    have HB:=n2_
    clear n0_ n1_ n2_
    refine start_ (n:=7) (S:=fun w'=>w'.cell? ⟨gb226,0,none⟩ = some (.int .i64 x227000_1) ∧ w'.cell? ⟨gb226,1,none⟩ = some (.int .i64 x227001_1)) (ds:=[6]) #[false,false,false,false,false,false,false] (by kernel_rfl) rfl rfl ⟨(blk_cell BK226.out 0).trans rfl,(blk_cell BK226.out 1).trans rfl⟩ (fun hHeld=>?_)
    generalize wr.drew = w30 at BK225 BK226 HB hHeld ⊢
    refine pure_ (i:=0) (N:=some 25) (v:=?_) (a':=?_) #[true,false,false,false,false,false,false] rfl rfl (by kernel_rfl) (fun _ _ _ h=>h) (Or.inl ⟨by rfl,?_⟩) ?_ ?_
    rotate_left
    ·intro w'
     go_simp
     with_reducible rfl
    rotate_left
    ·simp only [Act.put,List.setIfInBounds_toArray,List.set_cons_zero,List.set_cons_succ,i64_w,i32_w]
     rfl
    refine pure_ (i:=2) (N:=some 27) (v:=?_) (a':=?_) #[true,false,true,false,false,false,false] rfl rfl (by kernel_rfl) (fun _ _ _ h=>h) (Or.inl ⟨by rfl,?_⟩) ?_ ?_
    rotate_left
    ·intro w'
     go_simp
     with_reducible rfl
    rotate_left
    ·simp only [Act.put,List.setIfInBounds_toArray,List.set_cons_zero,List.set_cons_succ,i64_w,i32_w]
     rfl
    refine pure_ (i:=3) (N:=some 28) (v:=?_) (a':=?_) #[true,false,true,true,false,false,false] rfl rfl (by kernel_rfl) (fun _ _ _ h=>h) (Or.inl ⟨by rfl,?_⟩) ?_ ?_
    rotate_left
    ·intro w'
     go_simp
     with_reducible rfl
    rotate_left
    ·simp only [Act.put,List.setIfInBounds_toArray,List.set_cons_zero,List.set_cons_succ,i64_w,i32_w]
     rfl
    refine take_ (i:=1) (N:=some 26) (v:=?_) (a':=?_) #[true,true,true,true,false,false,false] rfl rfl (by kernel_rfl) (fun _ _ _ h=>h) (Or.inl ⟨by rfl,?_⟩) hHeld ?_ ?_
    rotate_left
    ·rintro w' ⟨s0,s1⟩
     go_simp
     with_reducible rfl
    rotate_left
    ·simp only [Act.put,List.setIfInBounds_toArray,List.set_cons_zero,List.set_cons_succ,i64_w,i32_w]
     rfl
    refine pure_ (i:=4) (N:=some 29) (v:=?_) (a':=?_) #[true,true,true,true,true,false,false] rfl rfl (by kernel_rfl) (fun _ _ _ h=>h) (Or.inl ⟨by rfl,?_⟩) ?_ ?_
    rotate_left
    ·intro w'
     go_simp
     with_reducible rfl
    rotate_left
    ·simp only [Act.put,List.setIfInBounds_toArray,List.set_cons_zero,List.set_cons_succ,i64_w,i32_w]
     rfl
    refine pure_ (i:=5) (N:=some 30) (v:=?_) (a':=?_) #[true,true,true,true,true,true,false] rfl rfl (by kernel_rfl) (fun _ _ _ h=>h) (Or.inl ⟨by rfl,?_⟩) ?_ ?_
    rotate_left
    ·intro w'
     go_simp
     with_reducible rfl
    rotate_left
    ·simp only [Act.put,List.setIfInBounds_toArray,List.set_cons_zero,List.set_cons_succ,i64_w,i32_w]
     rfl
    refine last_ (i:=6) (N:=none) #[true,true,true,true,true,true,true] rfl rfl (by kernel_rfl) (by decide) (fun K hK=>?_)
    have hs31:w30.cell? ⟨gb226,0,none⟩ = some (.int .i64 x227000_1):=(blk_cell BK226.out 0).trans rfl
    have hfs31:=blk_frozen BK226.out 0
    have hns31_0:=NB225_226.out
    have hms31_0:=NB226_225.out
    refine skip_ (w1:=?_) (by rfl) rfl ?_ ?_
    rotate_left
    ·go_simp
     rfl
    refine hK.out _ _ ?_
    clear hK K
    refine done_ (by kernel_rfl) ?_
    try go_wp2
    have n0_:Aside0 ((w30.setCell ⟨gb226,0,none⟩ (.int .i64 (Go.bits .or .i64 x227000_1 (ji20)))).heap[gb225]? = some (.cells #[.int .i64 x226000_1,.int .i64 x226001_1] 96 (0,0))):=⟨by (with_reducible repeat (first | refine blk_drewN ?_ _ | refine blk_drew ?_ | refine blk_alloc ?_ _));refine blk_far ?_ NB225_226.out _;(with_reducible repeat (first | refine blk_drewN ?_ _ | refine blk_drew ?_ | refine blk_alloc ?_ _));exact BK225.out⟩
    have n1_:Aside0 ((w30.setCell ⟨gb226,0,none⟩ (.int .i64 (Go.bits .or .i64 x227000_1 (ji20)))).heap[gb226]? = some (.cells #[.int .i64 (Go.bits .or .i64 x227000_1 (ji20)),.int .i64 x227001_1] 96 (0,0))):=⟨by (with_reducible repeat (first | refine blk_drewN ?_ _ | refine blk_drew ?_ | refine blk_alloc ?_ _));refine blk_put (cs:=#[.int .i64 x227000_1,.int .i64 x227001_1]) ?_ 0 _ rfl;(with_reducible repeat (first | refine blk_drewN ?_ _ | refine blk_drew ?_ | refine blk_alloc ?_ _));exact BK226.out⟩
    have n2_:Aside0 (Below w.heap.size w (w30.setCell ⟨gb226,0,none⟩ (.int .i64 (Go.bits .or .i64 x227000_1 (ji20))))):=⟨by repeat (first | (with_reducible first | exact HB.out | apply below_alloc | apply pw_below_drewN | apply below_drew1 | refine below_set ?_ GE225.out | refine below_set ?_ GE226.out) | exact HB.out)⟩
    (try clear BK225)
    (try clear BK226)
    (try clear HB)
    generalize (w30.setCell ⟨gb226,0,none⟩ (.int .i64 (Go.bits .or .i64 x227000_1 (ji20)))) = w32 at n0_ n1_ n2_ ⊢
    have BK225:=n0_
    have BK226:=n1_
    have HB:=n2_
    clear n0_ n1_ n2_
    have n0_:=Aside0.mk (blk_drew BK225.out)
    have n1_:=Aside0.mk (blk_drew BK226.out)
    have n2_:=Aside0.mk (below_drew1 HB.out)
    clear BK225
    clear BK226
    clear HB
    have BK225:=n0_
    have BK226:=n1_
    have HB:=n2_
    clear n0_ n1_ n2_
    refine start_ (n:=7) (S:=fun w'=>w'.cell? ⟨gb226,0,none⟩ = some (.int .i64 (Go.bits .or .i64 x227000_1 (ji20))) ∧ w'.cell? ⟨gb226,1,none⟩ = some (.int .i64 x227001_1)) (ds:=[6]) #[false,false,false,false,false,false,false] (by kernel_rfl) rfl rfl ⟨(blk_cell BK226.out 0).trans rfl,(blk_cell BK226.out 1).trans rfl⟩ (fun hHeld=>?_)
    generalize w32.drew = w33 at BK225 BK226 HB hHeld ⊢
    refine pure_ (i:=0) (N:=some 31) (v:=?_) (a':=?_) #[true,false,false,false,false,false,false] rfl rfl (by kernel_rfl) (fun _ _ _ h=>h) (Or.inl ⟨by rfl,?_⟩) ?_ ?_
    rotate_left
    ·intro w'
     go_simp
     with_reducible rfl
    rotate_left
    ·simp only [Act.put,List.setIfInBounds_toArray,List.set_cons_zero,List.set_cons_succ,i64_w,i32_w]
     rfl
    refine pure_ (i:=2) (N:=some 33) (v:=?_) (a':=?_) #[true,false,true,false,false,false,false] rfl rfl (by kernel_rfl) (fun _ _ _ h=>h) (Or.inl ⟨by rfl,?_⟩) ?_ ?_
    rotate_left
    ·intro w'
     go_simp
     with_reducible rfl
    rotate_left
    ·simp only [Act.put,List.setIfInBounds_toArray,List.set_cons_zero,List.set_cons_succ,i64_w,i32_w]
     rfl
    refine pure_ (i:=3) (N:=some 34) (v:=?_) (a':=?_) #[true,false,true,true,false,false,false] rfl rfl (by kernel_rfl) (fun _ _ _ h=>h) (Or.inl ⟨by rfl,?_⟩) ?_ ?_
    rotate_left
    ·intro w'
     go_simp
     with_reducible rfl
    rotate_left
    ·simp only [Act.put,List.setIfInBounds_toArray,List.set_cons_zero,List.set_cons_succ,i64_w,i32_w]
     rfl
    refine take_ (i:=1) (N:=some 32) (v:=?_) (a':=?_) #[true,true,true,true,false,false,false] rfl rfl (by kernel_rfl) (fun _ _ _ h=>h) (Or.inl ⟨by rfl,?_⟩) hHeld ?_ ?_
    rotate_left
    ·rintro w' ⟨s0,s1⟩
     go_simp
     with_reducible rfl
    rotate_left
    ·simp only [Act.put,List.setIfInBounds_toArray,List.set_cons_zero,List.set_cons_succ,i64_w,i32_w]
     rfl
    refine pure_ (i:=4) (N:=some 35) (v:=?_) (a':=?_) #[true,true,true,true,true,false,false] rfl rfl (by kernel_rfl) (fun _ _ _ h=>h) (Or.inl ⟨by rfl,?_⟩) ?_ ?_
    rotate_left
    ·intro w'
     go_simp
     with_reducible rfl
    rotate_left
    ·simp only [Act.put,List.setIfInBounds_toArray,List.set_cons_zero,List.set_cons_succ,i64_w,i32_w]
     rfl
    refine pure_ (i:=5) (N:=some 36) (v:=?_) (a':=?_) #[true,true,true,true,true,true,false] rfl rfl (by kernel_rfl) (fun _ _ _ h=>h) (Or.inl ⟨by rfl,?_⟩) ?_ ?_
    rotate_left
    ·intro w'
     go_simp
     with_reducible rfl
    rotate_left
    ·simp only [Act.put,List.setIfInBounds_toArray,List.set_cons_zero,List.set_cons_succ,i64_w,i32_w]
     rfl
    refine last_ (i:=6) (N:=none) #[true,true,true,true,true,true,true] rfl rfl (by kernel_rfl) (by decide) (fun K hK=>?_)
    have hs34:w33.cell? ⟨gb226,1,none⟩ = some (.int .i64 x227001_1):=(blk_cell BK226.out 1).trans rfl
    have hfs34:=blk_frozen BK226.out 1
    have hns34_0:=NB225_226.out
    have hms34_0:=NB226_225.out
    refine skip_ (w1:=?_) (by rfl) rfl ?_ ?_
    rotate_left
    ·go_simp
     rfl
    refine hK.out _ _ ?_
    clear hK K
    refine done_ (by kernel_rfl) ?_
    try go_wp2
    go_roundg k1
    case measure=>have:=HK1.out;omega
    case rel=>exact ⟨(wrap64 (x8_1 + 1)),(x226000_1),(x226001_1),(Go.bits .or .i64 x227000_1 (ji20)),(Go.bits .or .i64 x227001_1 (ji20)),(by first | rfl | (simp;done) | (simp [*];done)),H',⟨by have:=HK1.out;omega⟩,⟨by (with_reducible repeat (first | refine blk_drewN ?_ _ | refine blk_drew ?_ | refine blk_alloc ?_ _));refine blk_far ?_ NB225_226.out _;(with_reducible repeat (first | refine blk_drewN ?_ _ | refine blk_drew ?_ | refine blk_alloc ?_ _));exact BK225.out⟩,⟨by (with_reducible repeat (first | refine blk_drewN ?_ _ | refine blk_drew ?_ | refine blk_alloc ?_ _));refine blk_put (cs:=#[.int .i64 (Go.bits .or .i64 x227000_1 (ji20)),.int .i64 x227001_1]) ?_ 1 _ rfl;(with_reducible repeat (first | refine blk_drewN ?_ _ | refine blk_drew ?_ | refine blk_alloc ?_ _));exact BK226.out⟩,⟨by repeat (first | (with_reducible first | exact HB.out | apply below_alloc | apply pw_below_drewN | apply below_drew1 | refine below_set ?_ GE225.out | refine below_set ?_ GE226.out) | exact HB.out)⟩⟩
   rw [if_pos c22] at H
   have c22b0:decide (5 ≤ x8_1) = true:=decide_eq_true c22
   clear c22
   simp only [Option.some.injEq,Prod.mk.injEq] at H
   obtain ⟨rfl,rfl,rfl⟩:=H
   have p7:0 ≤ (x8_1:Int):=of_decide_eq_true (by first | (with_reducible assumption) | assumption)
   have q7:x8_1 < (a0.size:Int):=of_decide_eq_true (by first | (with_reducible assumption) | assumption)
   have hx7:=bt_at a0 x8_1
   replace p7:=eq_true p7
   replace q7:=eq_true q7
   try go_wp2
   have n0_:=Aside0.mk (blk_drew BK225.out)
   have n1_:=Aside0.mk (blk_drew BK226.out)
   have n2_:=Aside0.mk (below_drew1 HB.out)
   clear BK225
   clear BK226
   clear HB
   have BK225:=n0_
   have BK226:=n1_
   have HB:=n2_
   clear n0_ n1_ n2_
   refine start_ (n:=7) (S:=fun w'=>w'.cell? ⟨gb226,0,none⟩ = some (.int .i64 x227000_1) ∧ w'.cell? ⟨gb226,1,none⟩ = some (.int .i64 x227001_1)) (ds:=[6]) #[false,false,false,false,false,false,false] (by kernel_rfl) rfl rfl ⟨(blk_cell BK226.out 0).trans rfl,(blk_cell BK226.out 1).trans rfl⟩ (fun hHeld=>?_)
   generalize wr.drew = w23 at BK225 BK226 HB hHeld ⊢
   refine pure_ (i:=0) (N:=some 25) (v:=?_) (a':=?_) #[true,false,false,false,false,false,false] rfl rfl (by kernel_rfl) (fun _ _ _ h=>h) (Or.inl ⟨by rfl,?_⟩) ?_ ?_
   rotate_left
   ·intro w'
    go_simp
    with_reducible rfl
   rotate_left
   ·simp only [Act.put,List.setIfInBounds_toArray,List.set_cons_zero,List.set_cons_succ,i64_w,i32_w]
    rfl
   refine pure_ (i:=2) (N:=some 27) (v:=?_) (a':=?_) #[true,false,true,false,false,false,false] rfl rfl (by kernel_rfl) (fun _ _ _ h=>h) (Or.inl ⟨by rfl,?_⟩) ?_ ?_
   rotate_left
   ·intro w'
    go_simp
    with_reducible rfl
   rotate_left
   ·simp only [Act.put,List.setIfInBounds_toArray,List.set_cons_zero,List.set_cons_succ,i64_w,i32_w]
    rfl
   refine pure_ (i:=3) (N:=some 28) (v:=?_) (a':=?_) #[true,false,true,true,false,false,false] rfl rfl (by kernel_rfl) (fun _ _ _ h=>h) (Or.inl ⟨by rfl,?_⟩) ?_ ?_
   rotate_left
   ·intro w'
    go_simp
    with_reducible rfl
   rotate_left
   ·simp only [Act.put,List.setIfInBounds_toArray,List.set_cons_zero,List.set_cons_succ,i64_w,i32_w]
    rfl
   refine take_ (i:=1) (N:=some 26) (v:=?_) (a':=?_) #[true,true,true,true,false,false,false] rfl rfl (by kernel_rfl) (fun _ _ _ h=>h) (Or.inl ⟨by rfl,?_⟩) hHeld ?_ ?_
   rotate_left
   ·rintro w' ⟨s0,s1⟩
    go_simp
    with_reducible rfl
   rotate_left
   ·simp only [Act.put,List.setIfInBounds_toArray,List.set_cons_zero,List.set_cons_succ,i64_w,i32_w]
    rfl
   refine pure_ (i:=4) (N:=some 29) (v:=?_) (a':=?_) #[true,true,true,true,true,false,false] rfl rfl (by kernel_rfl) (fun _ _ _ h=>h) (Or.inl ⟨by rfl,?_⟩) ?_ ?_
   rotate_left
   ·intro w'
    go_simp
    with_reducible rfl
   rotate_left
   ·simp only [Act.put,List.setIfInBounds_toArray,List.set_cons_zero,List.set_cons_succ,i64_w,i32_w]
    rfl
   refine pure_ (i:=5) (N:=some 30) (v:=?_) (a':=?_) #[true,true,true,true,true,true,false] rfl rfl (by kernel_rfl) (fun _ _ _ h=>h) (Or.inl ⟨by rfl,?_⟩) ?_ ?_
   rotate_left
   ·intro w'
    go_simp
    with_reducible rfl
   rotate_left
   ·simp only [Act.put,List.setIfInBounds_toArray,List.set_cons_zero,List.set_cons_succ,i64_w,i32_w]
    rfl
   refine last_ (i:=6) (N:=none) #[true,true,true,true,true,true,true] rfl rfl (by kernel_rfl) (by decide) (fun K hK=>?_)
   have hs24:w23.cell? ⟨gb226,0,none⟩ = some (.int .i64 x227000_1):=(blk_cell BK226.out 0).trans rfl
   have hfs24:=blk_frozen BK226.out 0
   have hns24_0:=NB225_226.out
   have hms24_0:=NB226_225.out
   refine skip_ (w1:=?_) (by rfl) rfl ?_ ?_
   rotate_left
   ·go_simp
    rfl
   refine hK.out _ _ ?_
   clear hK K
   refine done_ (by kernel_rfl) ?_
   try go_wp2
   have n0_:Aside0 ((w23.setCell ⟨gb226,0,none⟩ (.int .i64 (Go.bits .or .i64 x227000_1 (ji20)))).heap[gb225]? = some (.cells #[.int .i64 x226000_1,.int .i64 x226001_1] 96 (0,0))):=⟨by (with_reducible repeat (first | refine blk_drewN ?_ _ | refine blk_drew ?_ | refine blk_alloc ?_ _));refine blk_far ?_ NB225_226.out _;(with_reducible repeat (first | refine blk_drewN ?_ _ | refine blk_drew ?_ | refine blk_alloc ?_ _));exact BK225.out⟩
   have n1_:Aside0 ((w23.setCell ⟨gb226,0,none⟩ (.int .i64 (Go.bits .or .i64 x227000_1 (ji20)))).heap[gb226]? = some (.cells #[.int .i64 (Go.bits .or .i64 x227000_1 (ji20)),.int .i64 x227001_1] 96 (0,0))):=⟨by (with_reducible repeat (first | refine blk_drewN ?_ _ | refine blk_drew ?_ | refine blk_alloc ?_ _));refine blk_put (cs:=#[.int .i64 x227000_1,.int .i64 x227001_1]) ?_ 0 _ rfl;(with_reducible repeat (first | refine blk_drewN ?_ _ | refine blk_drew ?_ | refine blk_alloc ?_ _));exact BK226.out⟩
   have n2_:Aside0 (Below w.heap.size w (w23.setCell ⟨gb226,0,none⟩ (.int .i64 (Go.bits .or .i64 x227000_1 (ji20))))):=⟨by repeat (first | (with_reducible first | exact HB.out | apply below_alloc | apply pw_below_drewN | apply below_drew1 | refine below_set ?_ GE225.out | refine below_set ?_ GE226.out) | exact HB.out)⟩
   (try clear BK225)
   (try clear BK226)
   (try clear HB)
   generalize (w23.setCell ⟨gb226,0,none⟩ (.int .i64 (Go.bits .or .i64 x227000_1 (ji20)))) = w25 at n0_ n1_ n2_ ⊢
   have BK225:=n0_
   have BK226:=n1_
   have HB:=n2_
   clear n0_ n1_ n2_
   have n0_:=Aside0.mk (blk_drew BK225.out)
   have n1_:=Aside0.mk (blk_drew BK226.out)
   have n2_:=Aside0.mk (below_drew1 HB.out)
   clear BK225
   clear BK226
   clear HB
   have BK225:=n0_
   have BK226:=n1_
   have HB:=n2_
   clear n0_ n1_ n2_
   refine start_ (n:=7) (S:=fun w'=>w'.cell? ⟨gb226,0,none⟩ = some (.int .i64 (Go.bits .or .i64 x227000_1 (ji20))) ∧ w'.cell? ⟨gb226,1,none⟩ = some (.int .i64 x227001_1)) (ds:=[6]) #[false,false,false,false,false,false,false] (by kernel_rfl) rfl rfl ⟨(blk_cell BK226.out 0).trans rfl,(blk_cell BK226.out 1).trans rfl⟩ (fun hHeld=>?_)
   generalize w25.drew = w26 at BK225 BK226 HB hHeld ⊢
   refine pure_ (i:=0) (N:=some 31) (v:=?_) (a':=?_) #[true,false,false,false,false,false,false] rfl rfl (by kernel_rfl) (fun _ _ _ h=>h) (Or.inl ⟨by rfl,?_⟩) ?_ ?_
   rotate_left
   ·intro w'
    go_simp
    with_reducible rfl
   rotate_left
   ·simp only [Act.put,List.setIfInBounds_toArray,List.set_cons_zero,List.set_cons_succ,i64_w,i32_w]
    rfl
   refine pure_ (i:=2) (N:=some 33) (v:=?_) (a':=?_) #[true,false,true,false,false,false,false] rfl rfl (by kernel_rfl) (fun _ _ _ h=>h) (Or.inl ⟨by rfl,?_⟩) ?_ ?_
   rotate_left
   ·intro w'
    go_simp
    with_reducible rfl
   rotate_left
   ·simp only [Act.put,List.setIfInBounds_toArray,List.set_cons_zero,List.set_cons_succ,i64_w,i32_w]
    rfl
   refine pure_ (i:=3) (N:=some 34) (v:=?_) (a':=?_) #[true,false,true,true,false,false,false] rfl rfl (by kernel_rfl) (fun _ _ _ h=>h) (Or.inl ⟨by rfl,?_⟩) ?_ ?_
   rotate_left
   ·intro w'
    go_simp
    with_reducible rfl
   rotate_left
   ·simp only [Act.put,List.setIfInBounds_toArray,List.set_cons_zero,List.set_cons_succ,i64_w,i32_w]
    rfl
   refine take_ (i:=1) (N:=some 32) (v:=?_) (a':=?_) #[true,true,true,true,false,false,false] rfl rfl (by kernel_rfl) (fun _ _ _ h=>h) (Or.inl ⟨by rfl,?_⟩) hHeld ?_ ?_
   rotate_left
   ·rintro w' ⟨s0,s1⟩
    go_simp
    with_reducible rfl
   rotate_left
   ·simp only [Act.put,List.setIfInBounds_toArray,List.set_cons_zero,List.set_cons_succ,i64_w,i32_w]
    rfl
   refine pure_ (i:=4) (N:=some 35) (v:=?_) (a':=?_) #[true,true,true,true,true,false,false] rfl rfl (by kernel_rfl) (fun _ _ _ h=>h) (Or.inl ⟨by rfl,?_⟩) ?_ ?_
   rotate_left
   ·intro w'
    go_simp
    with_reducible rfl
   rotate_left
   ·simp only [Act.put,List.setIfInBounds_toArray,List.set_cons_zero,List.set_cons_succ,i64_w,i32_w]
    rfl
   refine pure_ (i:=5) (N:=some 36) (v:=?_) (a':=?_) #[true,true,true,true,true,true,false] rfl rfl (by kernel_rfl) (fun _ _ _ h=>h) (Or.inl ⟨by rfl,?_⟩) ?_ ?_
   rotate_left
   ·intro w'
    go_simp
    with_reducible rfl
   rotate_left
   ·simp only [Act.put,List.setIfInBounds_toArray,List.set_cons_zero,List.set_cons_succ,i64_w,i32_w]
    rfl
   refine last_ (i:=6) (N:=none) #[true,true,true,true,true,true,true] rfl rfl (by kernel_rfl) (by decide) (fun K hK=>?_)
   have hs27:w26.cell? ⟨gb226,1,none⟩ = some (.int .i64 x227001_1):=(blk_cell BK226.out 1).trans rfl
   have hfs27:=blk_frozen BK226.out 1
   have hns27_0:=NB225_226.out
   have hms27_0:=NB226_225.out
   refine skip_ (w1:=?_) (by rfl) rfl ?_ ?_
   rotate_left
   ·go_simp
    rfl
   refine hK.out _ _ ?_
   clear hK K
   refine done_ (by kernel_rfl) ?_
   have hnb28:=NB225_226.out
   have hnc28:=NB226_225.out
   have hcz29_0:w26.cell? ⟨gb225,0,none⟩ = some (.int .i64 x226000_1):=(blk_cell BK225.out 0).trans rfl
   have hcz29_1:w26.cell? ⟨gb225,1,none⟩ = some (.int .i64 x226001_1):=(blk_cell BK225.out 1).trans rfl
   have hfz29_0:=blk_frozen BK225.out 0
   have hfz29_1:=blk_frozen BK225.out 1
   try go_wp2
   refine bodyPost_ret (results_ct rfl _ _ gb225 96 #[.int .i64 0,.int .i64 0] (0,0) _ rfl (by (with_reducible repeat (first | refine blk_drewN ?_ _ | refine blk_drew ?_ | refine blk_alloc ?_ _));refine blk_put (cs:=#[.int .i64 0,.int .i64 x226001_1]) ?_ 1 _ rfl;(with_reducible repeat (first | refine blk_drewN ?_ _ | refine blk_drew ?_ | refine blk_alloc ?_ _));refine blk_put (cs:=#[.int .i64 x226000_1,.int .i64 x226001_1]) ?_ 0 _ rfl;(with_reducible repeat (first | refine blk_drewN ?_ _ | refine blk_drew ?_ | refine blk_alloc ?_ _));refine blk_far ?_ NB225_226.out _;(with_reducible repeat (first | refine blk_drewN ?_ _ | refine blk_drew ?_ | refine blk_alloc ?_ _));exact BK225.out) Try.underlying96 rfl (by kernel_rfl)) rfl ?_
   exact ⟨by first | rfl | (simp [errW_none,errW_some] <;> rfl) | (simp only [← hji20];first | rfl | (simp [errW_none,errW_some] <;> rfl)) | (simp [*,errW_none,errW_some] <;> rfl) | (simp;cases a0.toList <;> rfl),by repeat (first | (with_reducible first | exact HB.out | apply below_alloc | apply pw_below_drewN | apply below_drew1 | refine below_set ?_ GE225.out | refine below_set ?_ GE226.out) | exact HB.out)⟩
def card_cube_has.f (a0_0:Int) (a0_1:Int) (a1:Int):Option (Bool):=some ((Go.bits .and .i64 a1 a0_0) == a0_1)
theorem card_cube_has.calls (a0_0:Int) (a0_1:Int) (a1:Int) (r:Bool) (w:World) (h:card_cube_has.f a0_0 a0_1 a1 = some r) :
  Calls Try.prog 70 #[.agg #[.int .i64 a0_0,.int .i64 a0_1],.int .i64 a1] w fun e w'=>e = .returned (.bool r) ∧ Below w.heap.size w w':=by
 have hu96:=Try.underlying96
 have HB:=Aside0.mk (Below.refl w.heap.size w)
 have H:(some ((Go.bits .and .i64 a1 a0_0) == a0_1)) = some r:=h
 clear h
 obtain rfl:=Option.some.inj H
 go_enter Try.func70,Try.ntmps70
 go_wp2_with (first | ((with_reducible refine gate_dst (N:=2) rfl ?_);refine box_event ?hg (N:=2) ?hd (cs:=#[.int .i64 a0_0,.int .i64 a0_1]) (t:=96) ?hr ?_;(case hd=>rfl);(case hg=>rfl);(case hr=>first | (go_simp;done) | (go_simp;rfl));intro gb135 hg w3 hbox hb;have n0_:=Aside0.mk (below_step (by repeat (first | (with_reducible first | exact HB.out | apply below_alloc | apply pw_below_drewN | apply below_drew1) | exact HB.out)) hb);have n1_:=Aside0.mk (hbox);have n2_:=Aside0.mk ((by rw [hg];exact (below_size (by repeat (first | (with_reducible first | exact HB.out | apply below_alloc | apply pw_below_drewN | apply below_drew1) | exact HB.out))):w.heap.size ≤ gb135));have n3_:=Aside0.mk ((by rw [hg];exact (below_size (by repeat (first | (with_reducible first | exact HB.out | apply below_alloc | apply pw_below_drewN | apply below_drew1) | exact HB.out))):w.heap.size ≤ gb135));clear HB;have HB:=n0_;have BK135:=n1_;have GW135:=n2_;have GE135:=n3_;clear n0_ n1_ n2_ n3_;clear hb hbox hg;have hcz4_0:w3.cell? ⟨gb135,0,none⟩ = some (.int .i64 a0_0):=(blk_cell BK135.out 0).trans rfl;have hcz4_1:w3.cell? ⟨gb135,1,none⟩ = some (.int .i64 a0_1):=(blk_cell BK135.out 1).trans rfl;have hfz4_0:=blk_frozen BK135.out 0;have hfz4_1:=blk_frozen BK135.out 1))
 go_ret
 exact ⟨by first | rfl | (simp [errW_none,errW_some] <;> rfl) | (simp [*,errW_none,errW_some] <;> rfl),by repeat (first | (with_reducible first | exact HB.out | apply below_alloc | apply pw_below_drewN | apply below_drew1 | refine below_set ?_ GE135.out) | exact HB.out)⟩
def numnahref01_Contains.l0:Nat → ByteArray → Int → Int → Option (Bool)
 | 0,_,_,_=>none
 | k + 1,x0,x1,x5=>if x5 < (x0.size:Int) then (if 0 ≤ x5 then (if (bt x0 x5) = 45 then (numnahref01_Contains.l0 k x0 x1 (wrap64 (x5 + 1))) else (if (((bt x0 x5) - 48) % 256) = (Int.tmod (shr .i64 x1 x5) 2) then (numnahref01_Contains.l0 k x0 x1 (wrap64 (x5 + 1))) else (some false))) else (none)) else (some true)
def numnahref01_Contains.f (k:Nat) (a0:ByteArray) (a1:Int):Option (Bool):=numnahref01_Contains.l0 k a0 a1 0
theorem numnahref01_Contains.mono_l:∀ k,(∀ y0 y1 y2,LeO (numnahref01_Contains.l0 k y0 y1 y2) (numnahref01_Contains.l0 (k + 1) y0 y1 y2))
 | 0=>fun _ _ _ r h=>by simp [numnahref01_Contains.l0] at h
 | k + 1=>by
  have ih0:=numnahref01_Contains.mono_l k
  intro y0 y1 y2
  unfold numnahref01_Contains.l0
  repeat' first
  | (with_reducible exact ih0 _ _ _)
  | (with_reducible exact LeO.refl _)
  | (with_reducible exact LeO.none _)
  | (with_reducible refine LeO.ite ?_ ?_)
  | (with_reducible refine LeO.bind ?_ (fun _=>?_))
  | exact ih0 _ _ _
  | exact LeO.none _
  | refine LeO.ite ?_ ?_
  | refine LeO.bind ?_ (fun _=>?_)
theorem numnahref01_Contains.mono:∀ a0 a1 k,LeO (numnahref01_Contains.f k a0 a1) (numnahref01_Contains.f (k + 1) a0 a1):=by
 intro a0 a1 k
 have ih0:=numnahref01_Contains.mono_l k
 unfold numnahref01_Contains.f
 repeat' first
   | (with_reducible exact ih0 _ _ _)
   | (with_reducible exact LeO.refl _)
   | (with_reducible exact LeO.none _)
   | (with_reducible refine LeO.ite ?_ ?_)
   | (with_reducible refine LeO.bind ?_ (fun _=>?_))
   | exact ih0 _ _ _
   | exact LeO.none _
   | refine LeO.ite ?_ ?_
   | refine LeO.bind ?_ (fun _=>?_)
theorem numnahref01_Contains.calls (k:Nat) (a0:ByteArray) (a1:Int) (r:Bool) (w:World) (h:numnahref01_Contains.f k a0 a1 = some r) :
  Calls Try.prog 68 #[.string a0,.int .i64 a1] w fun e w'=>e = .returned (.bool r) ∧ Drawn0 w w':=by
 have H:(numnahref01_Contains.l0 k a0 a1 0) = some r:=h
 clear h
 have H':=Aside0.mk H
 clear H
 go_enter Try.func68,Try.ntmps68
 go_wp2
 repeat (go_quiet (fail);try go_wp2)
 go_loopg [5] k (fun kq v5 w'=>∃ (x5_1:Int),v5 = .int .i64 x5_1 ∧ Aside0 (numnahref01_Contains.l0 kq a0 a1 x5_1 = some r) ∧ Aside0 (kq ≤ k) ∧ Drawn0 w w')
 case atStart=>exact ⟨(0),(by first | rfl | (simp;done) | (simp [*];done)),H',⟨Nat.le_refl _⟩,by repeat (first | exact Drawn0.refl _ | apply Drawn0.step)⟩
 case round =>
  clear H'
  try clear p2
  obtain ⟨x5_1,rfl,HA,HK1,⟨m1,rfl⟩⟩:=hrel
  cases gk with
  | zero=>exact absurd HA.out (by simp [numnahref01_Contains.l0])
  | succ k1 =>
   have H:=HA.out
   clear HA
   simp only [numnahref01_Contains.l0] at H
   by_cases c3:x5_1 < (a0.size:Int)
   case neg =>
    rw [if_neg c3] at H
    have c3b0:decide (x5_1 < (a0.size:Int)) = false:=decide_eq_false c3
    clear c3
    obtain rfl:=Option.some.inj H
    go_wp2
    repeat (go_quiet (fail);try go_wp2)
    go_ret
    exact ⟨by first | rfl | (simp;done) | (simp [*];done),by repeat (first | exact Drawn0.refl _ | apply Drawn0.step)⟩
   rw [if_pos c3] at H
   have c3b0:decide (x5_1 < (a0.size:Int)) = true:=decide_eq_true c3
   clear c3
   by_cases c4:0 ≤ x5_1
   case neg =>
    rw [if_neg c4] at H
    exact absurd H (by simp)
   rw [if_pos c4] at H
   have c4b0:decide (0 ≤ x5_1) = true:=decide_eq_true c4
   clear c4
   by_cases c6:(bt a0 x5_1) = 45
   ·rw [if_pos c6] at H
    have c6b0:((bt a0 x5_1) == 45) = true:=beq_iff_eq.mpr c6
    have c6b1:((bt a0 x5_1) != 45) = false:=bne_eq_false_iff_eq.mpr c6
    clear c6
    have H':=Aside0.mk H
    clear H
    have p5:0 ≤ (x5_1:Int):=of_decide_eq_true (by first | (with_reducible assumption) | assumption)
    have q5:x5_1 < (a0.size:Int):=of_decide_eq_true (by first | (with_reducible assumption) | assumption)
    have hx5:=bt_at a0 x5_1
    replace p5:=eq_true p5
    replace q5:=eq_true q5
    go_wp2
    repeat (go_quiet (fail);try go_wp2)
    go_roundg k1
    case measure=>have:=HK1.out;omega
    case rel=>exact ⟨(wrap64 (x5_1 + 1)),(by first | rfl | (simp;done) | (simp [*];done)),H',⟨by have:=HK1.out;omega⟩,by repeat (first | exact Drawn0.refl _ | apply Drawn0.step)⟩
   rw [if_neg c6] at H
   have c6b0:((bt a0 x5_1) == 45) = false:=beq_eq_false_iff_ne.mpr c6
   have c6b1:((bt a0 x5_1) != 45) = true:=bne_iff_ne.mpr c6
   have c8b0:=eq_true (of_decide_eq_true (by first | (with_reducible assumption) | assumption):0 ≤ x5_1)
   obtain ⟨ji9,hji9⟩:∃ j_:Int,(shr .i64 a1 x5_1) = j_:=⟨_,rfl⟩
   replace H:(if (((bt a0 x5_1) - 48) % 256) = (Int.tmod (ji9) 2) then (numnahref01_Contains.l0 k1 a0 a1 (wrap64 (x5_1 + 1))) else (some false)) = some r:=by first | (rw [hji9] at H;exact H) | (simp only [hji9] at H ⊢;exact H)
   have hji9_:(a1 / 2 ^ min x5_1.toNat 64) = ji9:=hji9
   have hji9z:x5_1 ≤ 64 → (a1 / 2 ^ x5_1.toNat) = ji9:=shr_small hji9
   by_cases c10:(((bt a0 x5_1) - 48) % 256) = (Int.tmod (ji9) 2)
   case neg =>
    rw [if_neg c10] at H
    have c10b0:((((bt a0 x5_1) - 48) % 256) == (Int.tmod (ji9) 2)) = false:=beq_eq_false_iff_ne.mpr c10
    have c10b1:((((bt a0 x5_1) - 48) % 256) != (Int.tmod (ji9) 2)) = true:=bne_iff_ne.mpr c10
    obtain rfl:=Option.some.inj H
    have p5:0 ≤ (x5_1:Int):=of_decide_eq_true (by first | (with_reducible assumption) | assumption)
    have q5:x5_1 < (a0.size:Int):=of_decide_eq_true (by first | (with_reducible assumption) | assumption)
    have hx5:=bt_at a0 x5_1
    replace p5:=eq_true p5
    replace q5:=eq_true q5
    have p7:0 ≤ (x5_1:Int):=of_decide_eq_true (by first | (with_reducible assumption) | assumption)
    have q7:x5_1 < (a0.size:Int):=of_decide_eq_true (by first | (with_reducible assumption) | assumption)
    have hx7:=bt_at a0 x5_1
    replace p7:=eq_true p7
    replace q7:=eq_true q7
    go_wp2
    repeat (go_quiet (fail);try go_wp2)
    go_ret
    exact ⟨by first | rfl | (simp;done) | (simp only [← hji9] <;> (first | rfl | simp)) | (simp [*];done),by repeat (first | exact Drawn0.refl _ | apply Drawn0.step)⟩
   rw [if_pos c10] at H
   have c10b0:((((bt a0 x5_1) - 48) % 256) == (Int.tmod (ji9) 2)) = true:=beq_iff_eq.mpr c10
   have c10b1:((((bt a0 x5_1) - 48) % 256) != (Int.tmod (ji9) 2)) = false:=bne_eq_false_iff_eq.mpr c10
   clear c10
   have H':=Aside0.mk H
   clear H
   have p5:0 ≤ (x5_1:Int):=of_decide_eq_true (by first | (with_reducible assumption) | assumption)
   have q5:x5_1 < (a0.size:Int):=of_decide_eq_true (by first | (with_reducible assumption) | assumption)
   have hx5:=bt_at a0 x5_1
   replace p5:=eq_true p5
   replace q5:=eq_true q5
   have p7:0 ≤ (x5_1:Int):=of_decide_eq_true (by first | (with_reducible assumption) | assumption)
   have q7:x5_1 < (a0.size:Int):=of_decide_eq_true (by first | (with_reducible assumption) | assumption)
   have hx7:=bt_at a0 x5_1
   replace p7:=eq_true p7
   replace q7:=eq_true q7
   go_wp2
   repeat (go_quiet (fail);try go_wp2)
   go_roundg k1
   case measure=>have:=HK1.out;omega
   case rel=>exact ⟨(wrap64 (x5_1 + 1)),(by first | rfl | (simp;done) | (simp [*];done)),H',⟨by have:=HK1.out;omega⟩,by repeat (first | exact Drawn0.refl _ | apply Drawn0.step)⟩
end Go.Proofs.Ythpahlkhiknofaa.G
set_option linter.unusedSectionVars false
namespace Go.Proofs.Ythpahlkhiknofaa.P
open Go Go.RowKit Go.Proofs.Ythpahlkhiknofaa.M Go.Proofs.Ythpahlkhiknofaa.G
open Go.Proofs.YthpahlkhiknofaaW.PrintWords Go.Proofs.YthpahlkhiknofaaW.PrintMore
theorem short_f (s:ByteArray):∃ c:ByteArray,c.size ≤ 40 ∧ numnahlaw01_short.f s = some c:=by
 unfold numnahlaw01_short.f
 refine ⟨s.extract 0 ((mn (s.size:Int) 40):Int).toNat,?_,?_⟩
 ·rw [ByteArray.size_extract]
  have:(mn (s.size:Int) 40) ≤ 40:=by unfold mn;split <;> omega
  omega
 ·rw [if_pos (by unfold mn;split <;> omega),if_pos (by unfold mn;split <;> omega)]
section
variable {c:ByteArray} (hc:c.size ≤ 40)
include hc
theorem cube_l0 (n:Int):∀ d i,i + d = c.size → Ev (fun k=>numnahref01_Cube.l0 k c n (i:Int)) (allF (isC c) d i && ((c.size:Int) == n)):=by
 intro d
 induction d with
 | zero =>
  intro i hi
  refine Ev.step (f:=fun _=>some ((c.size:Int) == n)) (fun k=>?_) (by rw [allF,Bool.true_and];exact Ev.now _)
  rw [numnahref01_Cube.l0,if_neg (by omega)]
 | succ d ih =>
  intro i hi
  have hn:=ih (i + 1) (by omega)
  refine Ev.step (fun k=>by rw [numnahref01_Cube.l0,if_pos (by omega),if_pos (by omega),wrap_succ (by omega)]) ?_
  rw [allF]
  by_cases h1:bt c (i:Int) = 48
  ·have:isC c i = true:=by unfold isC;simp [h1]
   rw [this,Bool.true_and]
   exact Ev.congr (fun k=>if_pos h1) hn
  ·by_cases h2:bt c (i:Int) = 49
   ·have:isC c i = true:=by unfold isC;simp [h2]
    rw [this,Bool.true_and]
    exact Ev.congr (fun k=>if_neg h1) (Ev.congr (fun k=>if_pos h2) hn)
   ·by_cases h3:bt c (i:Int) = 45
    ·have:isC c i = true:=by unfold isC;simp [h3]
     rw [this,Bool.true_and]
     exact Ev.congr (fun k=>if_neg h1) (Ev.congr (fun k=>if_neg h2) (Ev.congr (fun k=>if_pos h3) hn))
    ·have:isC c i = false:=by unfold isC;simp [h1,h2,h3]
     rw [this]
     exact Ev.congr (fun k=>if_neg h1) (Ev.congr (fun k=>if_neg h2) (Ev.congr (fun k=>if_neg h3) (Ev.now _)))
theorem ev_cube (n:Int):Ev (fun k=>numnahref01_Cube.f k c n) (okC c && ((c.size:Int) == n)):=cube_l0 hc n c.size 0 (by omega)
def newC (c:ByteArray):Int × Int × Bool:=if okC c && decide (c.size ≤ 5) then ((careN c c.size:Int),(valN c c.size:Int),decide (0 < c.size)) else (0,0,false)
theorem newCube_l0:∀ d i,i + d = c.size → i ≤ 5 → Ev (fun k=>card_newCube.l0 k c (c.size:Int) (i:Int) (careN c i:Int) (valN c i:Int)) (if allF (isC c) d i && decide (c.size ≤ 5) then ((careN c c.size:Int),(valN c c.size:Int),decide (0 < c.size)) else (0,0,false)):=by
 intro d
 induction d with
 | zero =>
  intro i hi h5
  obtain rfl:i = c.size:=by omega
  rw [allF,Bool.true_and,decide_eq_true h5,if_pos rfl]
  refine Ev.step (f:=fun _=>some ((careN c c.size:Int),(valN c c.size:Int),decide (0 < c.size))) (fun k=>?_) (Ev.now _)
  rw [card_newCube.l0,if_neg (by omega)]
  congr 3
  rw [Bool.eq_iff_iff,decide_eq_true_iff]
  have hl:c.toList.length = c.size:=toList_len c
  rw [bne_iff_ne,← hl]
  exact List.length_pos_iff.symm
 | succ d ih =>
  intro i hi h5
  have hcare:=careN_lt c i
  have hval:=valN_lt c i
  have hp:i < 5 → 2 ^ i ≤ 32:=fun h=>by
   have:2 ^ i ≤ 2 ^ 5:=Nat.pow_le_pow_right (by decide) (by omega)
   omega
  refine Ev.step (fun k=>by rw [card_newCube.l0,if_pos (by omega),if_pos (by omega),if_pos (by omega),wrap_succ (by omega)]) ?_
  rw [allF]
  by_cases hi5:i < 5
  ·have hn:=ih (i + 1) (by omega) (by omega)
   have h32:=hp hi5
   have e1:Go.bits .or .i64 (careN c i:Int) (shl .i64 1 (i:Int)) = ((careN c i ||| 2 ^ i:Nat):Int):=by rw [shl_one (by omega)];exact ni_or _ _ (by omega) (by omega)
   have e2:Go.bits .or .i64 (valN c i:Int) (shl .i64 1 (i:Int)) = ((valN c i ||| 2 ^ i:Nat):Int):=by rw [shl_one (by omega)];exact ni_or _ _ (by omega) (by omega)
   rw [e1,e2]
   rw [careN,valN] at hn
   by_cases h1:bt c (i:Int) = 48
   ·have:isC c i = true:=by unfold isC;simp [h1]
    rw [this,Bool.true_and]
    rw [if_neg (by omega),if_neg (by omega)] at hn
    exact Ev.congr (fun k=>if_pos h1) (Ev.congr (fun k=>if_neg (by omega)) hn)
   ·by_cases h2:bt c (i:Int) = 49
    ·have:isC c i = true:=by unfold isC;simp [h2]
     rw [this,Bool.true_and]
     rw [if_neg (by omega),if_pos h2] at hn
     exact Ev.congr (fun k=>if_neg h1) (Ev.congr (fun k=>if_pos h2) (Ev.congr (fun k=>if_neg (by omega)) hn))
    ·by_cases h3:bt c (i:Int) = 45
     ·have:isC c i = true:=by unfold isC;simp [h3]
      rw [this,Bool.true_and]
      rw [if_pos h3,if_neg h2] at hn
      exact Ev.congr (fun k=>if_neg h1) (Ev.congr (fun k=>if_neg h2) (Ev.congr (fun k=>if_pos h3) (Ev.congr (fun k=>if_neg (by omega)) hn)))
     ·have:isC c i = false:=by unfold isC;simp [h1,h2,h3]
      rw [this,Bool.false_and,Bool.false_and,if_neg (by decide)]
      exact Ev.congr (fun k=>if_neg h1) (Ev.congr (fun k=>if_neg h2) (Ev.congr (fun k=>if_neg h3) (Ev.now _)))
  ·have hs:decide (c.size ≤ 5) = false:=decide_eq_false (by omega)
   rw [hs,Bool.and_false,if_neg (by decide)]
   by_cases h1:bt c (i:Int) = 48
   ·exact Ev.congr (fun k=>if_pos h1) (Ev.congr (fun k=>if_pos (by omega)) (Ev.now _))
   ·by_cases h2:bt c (i:Int) = 49
    ·exact Ev.congr (fun k=>if_neg h1) (Ev.congr (fun k=>if_pos h2) (Ev.congr (fun k=>if_pos (by omega)) (Ev.now _)))
    ·by_cases h3:bt c (i:Int) = 45
     ·exact Ev.congr (fun k=>if_neg h1) (Ev.congr (fun k=>if_neg h2) (Ev.congr (fun k=>if_pos h3) (Ev.congr (fun k=>if_pos (by omega)) (Ev.now _))))
     ·exact Ev.congr (fun k=>if_neg h1) (Ev.congr (fun k=>if_neg h2) (Ev.congr (fun k=>if_neg h3) (Ev.now _)))
theorem ev_newCube:Ev (fun k=>card_newCube.f k c) (newC c):=newCube_l0 hc c.size 0 (by omega) (by omega)
theorem contains_l0 (p:Nat):∀ d i,i + d = c.size → Ev (fun k=>numnahref01_Contains.l0 k c (p:Int) (i:Int)) (allF (fun i=>decide (bt c (i:Int) = 45) || decide ((bt c (i:Int) - 48) % 256 = if p.testBit i then 1 else 0)) d i):=by
 intro d
 induction d with
 | zero =>
  intro i hi
  refine Ev.step (f:=fun _=>some true) (fun k=>?_) (Ev.now _)
  rw [numnahref01_Contains.l0,if_neg (by omega)]
 | succ d ih =>
  intro i hi
  have hn:=ih (i + 1) (by omega)
  refine Ev.step (fun k=>by rw [numnahref01_Contains.l0,if_pos (by omega),if_pos (by omega),wrap_succ (by omega),digit (by omega)]) ?_
  rw [allF]
  by_cases h1:bt c (i:Int) = 45
  ·rw [decide_eq_true h1,Bool.true_or,Bool.true_and]
   exact Ev.congr (fun k=>if_pos h1) hn
  ·rw [decide_eq_false h1,Bool.false_or]
   by_cases h2:(bt c (i:Int) - 48) % 256 = if p.testBit i then 1 else 0
   ·rw [decide_eq_true h2,Bool.true_and]
    exact Ev.congr (fun k=>if_neg h1) (Ev.congr (fun k=>if_pos h2) hn)
   ·rw [decide_eq_false h2,Bool.false_and]
    exact Ev.congr (fun k=>if_neg h1) (Ev.congr (fun k=>if_neg h2) (Ev.now _))
theorem ev_contains (hok:okC c = true) (p:Nat):Ev (fun k=>numnahref01_Contains.f k c (p:Int)) (inC c p):=by
 have h:=contains_l0 hc p c.size 0 (by omega)
 have e:allF (fun i=>decide (bt c (i:Int) = 45) || decide ((bt c (i:Int) - 48) % 256 = if p.testBit i then 1 else 0)) c.size 0 = inC c p:=by
  unfold inC
  refine allF_congr fun j _ hj=>?_
  have:=(allF_iff _ _ _).1 hok j (by omega) hj
  unfold isC at this
  simp only [decide_eq_true_eq] at this
  unfold atC
  rcases this with h1 | h1 | h1 <;> rw [h1] <;> cases p.testBit j <;> decide
 rw [e] at h
 exact h
end
theorem ev_aw:Ev (fun _=>(numnahlaw01_awake.f).bind fun t=>some t) true:=Ev.now _
end Go.Proofs.Ythpahlkhiknofaa.P
namespace Go.Proofs.Ythpahlkhiknofaa.G
open Go.RowKit Go.Proofs.YthpahlkhiknofaaW.PrintWords Go.Proofs.YthpahlkhiknofaaW.PrintLast Go.Proofs.YthpahlkhiknofaaW.PrintMore
set_option maxHeartbeats 8000000
set_option maxRecDepth 100000
attribute [local go_sem] max2_int min2_int max_two min_two max_three min_three max_four min_four   -- for this text's walks alone
def card_within.f (a0:Int) (a1:Int) (a2:Int):Option (Bool):=if a0 ≥ a1 then (some (decide (a0 ≤ a2))) else (some false)
theorem card_within.calls (a0:Int) (a1:Int) (a2:Int) (r:Bool) (w:World) (h:card_within.f a0 a1 a2 = some r) :
  Calls Try.prog 61 #[.int .i64 a0,.int .i64 a1,.int .i64 a2] w fun e w'=>e = .returned (.bool r) ∧ Drawn0 w w':=by
 have H:(if a0 ≥ a1 then (some (decide (a0 ≤ a2))) else (some false)) = some r:=h
 clear h
 by_cases c4:a0 ≥ a1
 ·rw [if_pos c4] at H
  have c4b0:decide (a1 ≤ a0) = true:=decide_eq_true c4
  clear c4
  obtain rfl:=Option.some.inj H
  go_enter Try.func61,Try.ntmps61
  go_wp2
  go_ret
  exact ⟨by first | rfl | (simp;done) | (simp [*];done),by repeat (first | exact Drawn0.refl _ | apply Drawn0.step)⟩
 rw [if_neg c4] at H
 have c4b0:decide (a1 ≤ a0) = false:=decide_eq_false c4
 clear c4
 obtain rfl:=Option.some.inj H
 go_enter Try.func61,Try.ntmps61
 go_wp2
 go_ret
 exact ⟨by first | rfl | (simp;done) | (simp [*];done),by repeat (first | exact Drawn0.refl _ | apply Drawn0.step)⟩
end Go.Proofs.Ythpahlkhiknofaa.G
namespace Go.Proofs.Ythpahlkhiknofaa.G
open Go Go.RowKit Go.Proofs.YthpahlkhiknofaaW.PrintWords
def bits_Len.f (a0:Int):Option Int:=if 0 ≤ a0 ∧ a0 ≤ 18446744073709551615 then some (Lib.bitLen a0.toNat:Int) else none
theorem bits_Len.calls (a0:Int) (r:Int) (w:World) (h:bits_Len.f a0 = some r):Calls Try.prog 94 #[.int .u64 a0] w fun e w'=>e = .returned (.int .i64 r) ∧ Below w.heap.size w w':=by
 unfold bits_Len.f at h
 by_cases hb:0 ≤ a0 ∧ a0 ≤ 18446744073709551615
 case neg =>
  rw [if_neg hb] at h;cases h
 rw [if_pos hb] at h
 obtain rfl:=Option.some.inj h
 refine (Try.bits_Len a0 w hb.1 hb.2).mono fun e w' he=>?_
 obtain ⟨rfl,rfl⟩:=he
 exact ⟨rfl,Below.refl _ _⟩
end Go.Proofs.Ythpahlkhiknofaa.G
namespace Go.Proofs.Ythpahlkhiknofaa.G
open Go.RowKit Go.Proofs.YthpahlkhiknofaaW.PrintWords Go.Proofs.YthpahlkhiknofaaW.PrintLast Go.Proofs.YthpahlkhiknofaaW.PrintMore
set_option maxHeartbeats 8000000
set_option maxRecDepth 100000
attribute [local go_sem] max2_int min2_int max_two min_two max_three min_three max_four min_four   -- for this text's walks alone
def card_newFunction_1.f (a0:Int):Option (Bool):=if a0 = 48 then (some false) else (if a0 = 49 then (some false) else (some (a0 != 45)))
theorem card_newFunction_1.calls (a0:Int) (r:Bool) (w:World) (h:card_newFunction_1.f a0 = some r) :
  Calls Try.prog 96 #[.int .i32 a0] w fun e w'=>e = .returned (.bool r) ∧ Drawn0 w w':=by
 have H:(if a0 = 48 then (some false) else (if a0 = 49 then (some false) else (some (a0 != 45)))) = some r:=h
 clear h
 by_cases c2:a0 = 48
 ·rw [if_pos c2] at H
  have c2b0:(a0 == 48) = true:=beq_iff_eq.mpr c2
  have c2b1:(a0 != 48) = false:=bne_eq_false_iff_eq.mpr c2
  clear c2
  obtain rfl:=Option.some.inj H
  go_enter Try.func96,Try.ntmps96
  go_wp2
  go_ret
  exact ⟨by first | rfl | (simp;done) | (simp [*];done),by repeat (first | exact Drawn0.refl _ | apply Drawn0.step)⟩
 rw [if_neg c2] at H
 have c2b0:(a0 == 48) = false:=beq_eq_false_iff_ne.mpr c2
 have c2b1:(a0 != 48) = true:=bne_iff_ne.mpr c2
 by_cases c3:a0 = 49
 case neg =>
  rw [if_neg c3] at H
  have c3b0:(a0 == 49) = false:=beq_eq_false_iff_ne.mpr c3
  have c3b1:(a0 != 49) = true:=bne_iff_ne.mpr c3
  obtain rfl:=Option.some.inj H
  go_enter Try.func96,Try.ntmps96
  go_wp2
  go_ret
  exact ⟨by first | rfl | (simp;done) | (simp [*];done),by repeat (first | exact Drawn0.refl _ | apply Drawn0.step)⟩
 rw [if_pos c3] at H
 have c3b0:(a0 == 49) = true:=beq_iff_eq.mpr c3
 have c3b1:(a0 != 49) = false:=bne_eq_false_iff_eq.mpr c3
 clear c3
 obtain rfl:=Option.some.inj H
 go_enter Try.func96,Try.ntmps96
 go_wp2
 go_ret
 exact ⟨by first | rfl | (simp;done) | (simp [*];done),by repeat (first | exact Drawn0.refl _ | apply Drawn0.step)⟩
def card_newFunction_1.Pure:Prop:=∀ (a0:Int),(Lit.int .i32 a0).wf = true → card_newFunction_1.f a0 = some true
theorem card_newFunction_1.walk (P:card_newFunction_1.Pure) (a0:Int) (w:World) (w0:(Lit.int .i32 a0).wf = true) :
  Calls Try.prog 96 #[.int .i32 a0] w fun e w'=>e = .returned (.bool true) ∧ Below w.heap.size w w':=by
 have h:=P a0 w0
 refine (card_newFunction_1.calls a0 true w h).mono ?_
 rintro e w' ⟨rfl,hd⟩
 exact ⟨rfl,hd.below⟩
end Go.Proofs.Ythpahlkhiknofaa.G
namespace Go.Proofs.Ythpahlkhiknofaa.P
open Go Go.RowKit Go.Proofs.YthpahlkhiknofaaW.PrintWords
def badN (x:Nat):Bool:=!(decide (x = 48) || decide (x = 49) || decide (x = 45))
theorem get_bt {s:ByteArray} {i:Nat} (h:i < s.size):(s.get! i).toNat = (bt s (i:Int)).toNat:=by
 rw [bt_get h,Int.toNat_natCast]
 congr 1
 show s.data[i]! = s.data[i]
 rw [getElem!_pos]
theorem decode_low {s:ByteArray} {i:Nat} (h:(s.get! i).toNat < 128):Utf8.decode s i = ((s.get! i).toNat,1):=by
 unfold Utf8.decode
 simp only [Nat.add_zero]
 rw [if_pos h]
theorem decode_high {s:ByteArray} {i:Nat} (h:¬ (s.get! i).toNat < 128):128 ≤ (Utf8.decode s i).1:=by
 unfold Utf8.decode
 simp only [Nat.add_zero]
 rw [if_neg h]
 have e:128 ≤ Utf8.runeError:=by decide
 split
 ·split
  ·assumption
  exact e
 split
 ·split
  ·rename_i h2
   rw [Bool.and_eq_true,decide_eq_true_eq] at h2
   show 128 ≤ _
   have:=h2.1
   simp only at this ⊢
   omega
  exact e
 split
 ·split
  ·rename_i h2
   rw [Bool.and_eq_true,decide_eq_true_eq] at h2
   have:=h2.1
   simp only at this ⊢
   omega
  exact e
 exact e
theorem idx_bad (s:ByteArray):∀ f pos,s.size - pos ≤ f → decide (0 ≤ Lib.idxFuncFrom badN true s f pos) = !allF (isC s) (s.size - pos) pos
 | 0,pos,h=>by
  have e:s.size - pos = 0:=by omega
  rw [e];rfl
 | f + 1,pos,h=>by
  rw [Lib.idxFuncFrom]
  by_cases hp:pos < s.size
  case neg =>
   rw [if_neg hp]
   have e:s.size - pos = 0:=by omega
   rw [e];rfl
  rw [if_pos hp]
  obtain ⟨d,hd⟩:∃ d,s.size - pos = d + 1:=⟨s.size - pos - 1,by omega⟩
  have hd2:s.size - (pos + 1) = d:=by omega
  rw [hd,allF]
  have hg:=get_bt hp
  have hr:=bt_range s (pos:Int)
  by_cases hl:(s.get! pos).toNat < 128
  case neg =>
   have h2:=decode_high hl
   have hb:badN (Utf8.decode s pos).1 = true:=by
    unfold badN
    rw [decide_eq_false (by omega),decide_eq_false (by omega),decide_eq_false (by omega)];rfl
   rw [hb,if_pos rfl]
   have hc':isC s pos = false:=by
    unfold isC
    exact decide_eq_false (by omega)
   rw [hc',Bool.false_and]
   exact decide_eq_true (by omega)
  rw [decode_low hl]
  have hb:badN (s.get! pos).toNat = !isC s pos:=by
   unfold badN isC
   rw [hg]
   congr 1
   rw [Bool.eq_iff_iff]
   simp only [Bool.or_eq_true,decide_eq_true_eq]
   omega
  simp only [hb]
  by_cases hc:isC s pos = true
  ·rw [hc,if_neg (by decide),Bool.true_and,idx_bad s f (pos + 1) (by omega),hd2]
  have hc':isC s pos = false:=by simpa using hc
  rw [hc',if_pos (by decide),Bool.false_and]
  exact decide_eq_true (by omega)
end Go.Proofs.Ythpahlkhiknofaa.P
namespace Go.Proofs.Ythpahlkhiknofaa.G
open Go Go.RowKit Go.Proofs.YthpahlkhiknofaaW.PrintWords
def contains96.f (a0:ByteArray):Option Bool:=some (!P.okC a0)
theorem contains96.calls (a0:ByteArray) (r:Bool) (w:World) (h:contains96.f a0 = some r):Calls Try.prog 95 #[.string a0,.func (.func 96) #[] #[]] w fun e w'=>e = .returned (.bool r) ∧ Below w.heap.size w w':=by
 obtain rfl:=Option.some.inj h
 refine (Try.strings_ContainsFunc_grows 96 #[] (enters_of Try.func96 (by kernel_rfl) rfl) P.badN a0 w (fun W x _ _=>?_)).mono fun e w' he=>?_
 ·refine (card_newFunction_1.calls (x:Int) (P.badN x) W ?_).mono fun e w' he=>⟨he.1,he.2.below⟩
  unfold card_newFunction_1.f P.badN
  by_cases h1:x = 48
  ·subst h1;rfl
  by_cases h2:x = 49
  ·subst h2;rfl
  rw [if_neg (by omega),if_neg (by omega),decide_eq_false h1,decide_eq_false h2]
  congr 1
  by_cases h3:x = 45
  ·subst h3;rfl
  rw [decide_eq_false h3]
  have:(x:Int) ≠ 45:=by omega
  simpa using this
 obtain ⟨rfl,hb⟩:=he
 refine ⟨?_,hb⟩
 have:=P.idx_bad a0 a0.size 0 (by omega)
 unfold Lib.idxFunc
 rw [this];rfl
end Go.Proofs.Ythpahlkhiknofaa.G
namespace Go.Proofs.Ythpahlkhiknofaa.G
open Go.RowKit Go.Proofs.YthpahlkhiknofaaW.PrintWords Go.Proofs.YthpahlkhiknofaaW.PrintLast Go.Proofs.YthpahlkhiknofaaW.PrintMore
set_option maxHeartbeats 8000000
set_option maxRecDepth 100000
attribute [local go_sem] max2_int min2_int max_two min_two max_three min_three max_four min_four   -- for this text's walks alone
def card_newFunction.f (a0:ByteArray):Option (Int × ByteArray × Bool):=(bits_Len.f (IntKind.u64.wrap ((a0.size:Int)))).bind fun t110=>((card_within.f (wrap64 (t110 - 1)) 1 5).bind fun t111=>(if t111 = true then (if 0 ≤ (wrap64 (t110 - 1)) then (if (a0.size:Int) = (shl .i64 1 (wrap64 (t110 - 1))) then ((contains96.f a0).bind fun t112=>(some (wrap64 (t110 - 1),a0,!t112))) else (some (wrap64 (t110 - 1),a0,false))) else (none)) else (some (wrap64 (t110 - 1),a0,false))))
theorem card_newFunction.calls (a0:ByteArray) (r1:Int) (r2:ByteArray) (r3:Bool) (w:World) (h:card_newFunction.f a0 = some (r1,r2,r3)) :
  Calls Try.prog 65 #[.string a0] w fun e w'=>e = .returned (.tuple #[.agg #[.int .i64 r1,.string r2],.bool r3]) ∧ Below w.heap.size w w':=by
 have hu81:=Try.underlying81
 have HB:=Aside0.mk (Below.refl w.heap.size w)
 have H:((bits_Len.f (IntKind.u64.wrap ((a0.size:Int)))).bind fun t110=>((card_within.f (wrap64 (t110 - 1)) 1 5).bind fun t111=>(if t111 = true then (if 0 ≤ (wrap64 (t110 - 1)) then (if (a0.size:Int) = (shl .i64 1 (wrap64 (t110 - 1))) then ((contains96.f a0).bind fun t112=>(some (wrap64 (t110 - 1),a0,!t112))) else (some (wrap64 (t110 - 1),a0,false))) else (none)) else (some (wrap64 (t110 - 1),a0,false))))) = some (r1,r2,r3):=h
 clear h
 replace H:=Option.bind_eq_some_iff.mp H
 obtain ⟨t110,A20,H⟩:=H
 replace H:((card_within.f (wrap64 (t110 - 1)) 1 5).bind fun t111=>(if t111 = true then (if 0 ≤ (wrap64 (t110 - 1)) then (if (a0.size:Int) = (shl .i64 1 (wrap64 (t110 - 1))) then ((contains96.f a0).bind fun t112=>(some (wrap64 (t110 - 1),a0,!t112))) else (some (wrap64 (t110 - 1),a0,false))) else (none)) else (some (wrap64 (t110 - 1),a0,false)))) = some (r1,r2,r3):=H
 have A2:=Aside0.mk A20
 clear A20
 replace H:=Option.bind_eq_some_iff.mp H
 obtain ⟨t111,A30,H⟩:=H
 replace H:(if t111 = true then (if 0 ≤ (wrap64 (t110 - 1)) then (if (a0.size:Int) = (shl .i64 1 (wrap64 (t110 - 1))) then ((contains96.f a0).bind fun t112=>(some (wrap64 (t110 - 1),a0,!t112))) else (some (wrap64 (t110 - 1),a0,false))) else (none)) else (some (wrap64 (t110 - 1),a0,false))) = some (r1,r2,r3):=H
 have A3:=Aside0.mk A30
 clear A30
 by_cases c4:t111 = true
 case neg =>
  replace c4:=Bool.eq_false_iff.mpr c4
  subst c4
  have H1:(some (wrap64 (t110 - 1),a0,false)) = some (r1,r2,r3):=by rw [if_neg (show ¬ (false = true) by decide)] at H;exact H
  clear H
  have H:=H1
  clear H1
  simp only [Option.some.injEq,Prod.mk.injEq] at H
  obtain ⟨rfl,rfl,rfl⟩:=H
  go_enter Try.func65,Try.ntmps65
  go_wp2_with (first | ((with_reducible refine gate_dst (N:=2) rfl ?_);(try (refine gate_guard (by rfl) ?_;dsimp only));refine box_event ?hg (N:=2) ?hd (cs:=#[.int .i64 0,.string (⟨#[]⟩:ByteArray)]) (t:=81) ?hr ?_;(case hd=>rfl);(case hg=>rfl);(case hr=>first | (go_simp;done) | (go_simp;rfl));intro gb109 hg w17 hbox hb;have n0_:=Aside0.mk (below_step (by repeat (first | (with_reducible first | exact HB.out | apply below_alloc | apply pw_below_drewN | apply below_drew1) | exact HB.out)) hb);have n1_:=Aside0.mk (hbox);have n2_:=Aside0.mk ((by rw [hg];exact (below_size (by repeat (first | (with_reducible first | exact HB.out | apply below_alloc | apply pw_below_drewN | apply below_drew1) | exact HB.out))):w.heap.size ≤ gb109));have n3_:=Aside0.mk ((by rw [hg];exact (below_size (by repeat (first | (with_reducible first | exact HB.out | apply below_alloc | apply pw_below_drewN | apply below_drew1) | exact HB.out))):w.heap.size ≤ gb109));clear HB;have HB:=n0_;have BK109:=n1_;have GW109:=n2_;have GE109:=n3_;clear n0_ n1_ n2_ n3_;clear hb hbox hg) | ((with_reducible refine gate_callee (f:=94) rfl ?_);refine goesL_ (some 9) rfl rfl Try.func94 (by kernel_rfl) rfl #[.int .u64 (IntKind.u64.wrap ((a0.size:Int)))] rfl (by (try simp only [List.map_toArray,List.map_cons,List.map_nil]);first | done | rfl | (simp only [List.length_drop,List.length_take];rfl)) ?_;(with_reducible refine (bits_Len.calls (IntKind.u64.wrap ((a0.size:Int))) t110 _ A2.out).mono ?_);rintro e w18 ⟨rfl,hb⟩;refine ⟨_,rfl,?_⟩;have n0_:=Aside0.mk (blk_below (g:=gb109) (o:=.cells #[.int .i64 0,.string (⟨#[]⟩:ByteArray)] 81 (0,0)) (by (with_reducible repeat (first | refine blk_drewN ?_ _ | refine blk_drew ?_ | refine blk_alloc ?_ _));exact BK109.out) hb);have n1_:=Aside0.mk (below_step (by repeat (first | (with_reducible first | exact HB.out | apply below_alloc | apply pw_below_drewN | apply below_drew1 | refine below_set ?_ GE109.out) | exact HB.out)) hb);clear BK109;clear HB;have BK109:=n0_;have HB:=n1_;clear n0_ n1_;(try clear hb)) | ((with_reducible refine gate_callee (f:=61) rfl ?_);refine goesL_ (some 12) rfl rfl Try.func61 (by kernel_rfl) rfl #[.int .i64 (wrap64 (t110 - 1)),.int .i64 1,.int .i64 5] rfl (by (try simp only [List.map_toArray,List.map_cons,List.map_nil]);first | done | rfl | (simp only [List.length_drop,List.length_take];rfl)) ?_;(with_reducible refine (card_within.calls (wrap64 (t110 - 1)) 1 5 false _ A3.out).mono ?_);rintro e w' ⟨rfl,⟨nd,rfl⟩⟩;refine ⟨_,rfl,?_⟩;(try (rw [drewN_self w18];generalize hq_:World.drewN w18 _ = w18;have n0_:Aside0 (w18.heap[gb109]? = some (.cells #[.int .i64 0,.string (⟨#[]⟩:ByteArray)] 81 (0,0))):=⟨by rw [← hq_];exact (by (with_reducible repeat (first | refine blk_drewN ?_ _ | refine blk_drew ?_ | refine blk_alloc ?_ _));exact BK109.out)⟩;have n1_:Aside0 (Below w.heap.size w w18):=⟨by rw [← hq_];exact (by repeat (first | (with_reducible first | exact HB.out | apply below_alloc | apply pw_below_drewN | apply below_drew1 | refine below_set ?_ GE109.out) | exact HB.out))⟩;clear BK109 HB hq_;have BK109:=n0_;have HB:=n1_;clear n0_ n1_));have hcz19_0:w18.cell? ⟨gb109,0,none⟩ = some (.int .i64 0):=(blk_cell BK109.out 0).trans rfl;have hcz19_1:w18.cell? ⟨gb109,1,none⟩ = some (.string (⟨#[]⟩:ByteArray)):=(blk_cell BK109.out 1).trans rfl;have hfz19_0:=blk_frozen BK109.out 0;have hfz19_1:=blk_frozen BK109.out 1))
  refine bodyPost_ret (results_ct rfl _ _ gb109 81 #[.int .i64 (wrap64 (t110 - 1)),.string a0] (0,0) _ rfl (by (with_reducible repeat (first | refine blk_drewN ?_ _ | refine blk_drew ?_ | refine blk_alloc ?_ _));refine blk_put (cs:=#[.int .i64 (wrap64 (t110 - 1)),.string (⟨#[]⟩:ByteArray)]) ?_ 1 _ rfl;(with_reducible repeat (first | refine blk_drewN ?_ _ | refine blk_drew ?_ | refine blk_alloc ?_ _));refine blk_put (cs:=#[.int .i64 0,.string (⟨#[]⟩:ByteArray)]) ?_ 0 _ rfl;(with_reducible repeat (first | refine blk_drewN ?_ _ | refine blk_drew ?_ | refine blk_alloc ?_ _));exact BK109.out) Try.underlying81 rfl (by kernel_rfl)) rfl ?_
  exact ⟨by first | rfl | (simp [errW_none,errW_some] <;> rfl) | (simp [*,errW_none,errW_some] <;> rfl),by repeat (first | (with_reducible first | exact HB.out | apply below_alloc | apply pw_below_drewN | apply below_drew1 | refine below_set ?_ GE109.out) | exact HB.out)⟩
 subst c4
 have H1:(if 0 ≤ (wrap64 (t110 - 1)) then (if (a0.size:Int) = (shl .i64 1 (wrap64 (t110 - 1))) then ((contains96.f a0).bind fun t112=>(some (wrap64 (t110 - 1),a0,!t112))) else (some (wrap64 (t110 - 1),a0,false))) else (none)) = some (r1,r2,r3):=by rw [if_pos rfl] at H;exact H
 clear H
 have H:=H1
 clear H1
 obtain ⟨ji5,hji5⟩:∃ j_:Int,(wrap64 (t110 - 1)) = j_:=⟨_,rfl⟩
 replace H:(if 0 ≤ (ji5) then (if (a0.size:Int) = (shl .i64 1 (ji5)) then ((contains96.f a0).bind fun t112=>(some (ji5,a0,!t112))) else (some (ji5,a0,false))) else (none)) = some (r1,r2,r3):=by first | (rw [hji5] at H;exact H) | (simp only [hji5] at H ⊢;exact H)
 (try rw [hji5] at A2)
 (try rw [hji5] at A3)
 have hji5w:(IntKind.i64.wrap (t110 - 1)) = ji5:=(i64_w _).trans hji5
 by_cases c6:0 ≤ (ji5)
 case neg =>
  rw [if_neg c6] at H
  exact absurd H (by simp)
 rw [if_pos c6] at H
 have c6b0:=eq_true c6
 have c6b1:decide (0 ≤ (ji5)) = true:=decide_eq_true c6
 clear c6
 obtain ⟨ji7,hji7⟩:∃ j_:Int,(shl .i64 1 (ji5)) = j_:=⟨_,rfl⟩
 replace H:(if (a0.size:Int) = (ji7) then ((contains96.f a0).bind fun t112=>(some (ji5,a0,!t112))) else (some (ji5,a0,false))) = some (r1,r2,r3):=by first | (rw [hji7] at H;exact H) | (simp only [hji7] at H ⊢;exact H)
 (try rw [hji7] at A2)
 (try rw [hji7] at A3)
 have hji7_:(IntKind.i64.wrap (1 * 2 ^ min (ji5).toNat 64)) = ji7:=hji7
 have hji7z:(ji5) ≤ 64 → (IntKind.i64.wrap (1 * 2 ^ (ji5).toNat)) = ji7:=shl_small hji7
 have hji7u:(IntKind.i64.wrap (2 ^ min (ji5).toNat 64)) = ji7:=by have h_:=hji7_;rw [Int.one_mul] at h_;exact h_
 have hji7v:(ji5) ≤ 64 → (IntKind.i64.wrap (2 ^ (ji5).toNat)) = ji7:=fun hle_=>by have h_:=hji7z hle_;rw [Int.one_mul] at h_;exact h_
 have hji7y:(wrap64 (1 * 2 ^ min (ji5).toNat 64)) = ji7:=(i64_w _).symm.trans hji7_
 have hji7x:(ji5) ≤ 64 → (wrap64 (1 * 2 ^ (ji5).toNat)) = ji7:=fun h_=>(i64_w _).symm.trans (hji7z h_)
 by_cases c8:(a0.size:Int) = (ji7)
 case neg =>
  rw [if_neg c8] at H
  have c8b0:((a0.size:Int) == (ji7)) = false:=beq_eq_false_iff_ne.mpr c8
  have c8b1:((a0.size:Int) != (ji7)) = true:=bne_iff_ne.mpr c8
  simp only [Option.some.injEq,Prod.mk.injEq] at H
  obtain ⟨rfl,rfl,rfl⟩:=H
  go_enter Try.func65,Try.ntmps65
  go_wp2_with (first | ((with_reducible refine gate_dst (N:=2) rfl ?_);(try (refine gate_guard (by rfl) ?_;dsimp only));refine box_event ?hg (N:=2) ?hd (cs:=#[.int .i64 0,.string (⟨#[]⟩:ByteArray)]) (t:=81) ?hr ?_;(case hd=>rfl);(case hg=>rfl);(case hr=>first | (go_simp;done) | (go_simp;rfl));intro gb109 hg w14 hbox hb;have n0_:=Aside0.mk (below_step (by repeat (first | (with_reducible first | exact HB.out | apply below_alloc | apply pw_below_drewN | apply below_drew1) | exact HB.out)) hb);have n1_:=Aside0.mk (hbox);have n2_:=Aside0.mk ((by rw [hg];exact (below_size (by repeat (first | (with_reducible first | exact HB.out | apply below_alloc | apply pw_below_drewN | apply below_drew1) | exact HB.out))):w.heap.size ≤ gb109));have n3_:=Aside0.mk ((by rw [hg];exact (below_size (by repeat (first | (with_reducible first | exact HB.out | apply below_alloc | apply pw_below_drewN | apply below_drew1) | exact HB.out))):w.heap.size ≤ gb109));clear HB;have HB:=n0_;have BK109:=n1_;have GW109:=n2_;have GE109:=n3_;clear n0_ n1_ n2_ n3_;clear hb hbox hg) | ((with_reducible refine gate_callee (f:=94) rfl ?_);refine goesL_ (some 9) rfl rfl Try.func94 (by kernel_rfl) rfl #[.int .u64 (IntKind.u64.wrap ((a0.size:Int)))] rfl (by (try simp only [List.map_toArray,List.map_cons,List.map_nil]);first | done | rfl | (simp only [List.length_drop,List.length_take];rfl)) ?_;(with_reducible refine (bits_Len.calls (IntKind.u64.wrap ((a0.size:Int))) t110 _ A2.out).mono ?_);rintro e w15 ⟨rfl,hb⟩;refine ⟨_,rfl,?_⟩;have n0_:=Aside0.mk (blk_below (g:=gb109) (o:=.cells #[.int .i64 0,.string (⟨#[]⟩:ByteArray)] 81 (0,0)) (by (with_reducible repeat (first | refine blk_drewN ?_ _ | refine blk_drew ?_ | refine blk_alloc ?_ _));exact BK109.out) hb);have n1_:=Aside0.mk (below_step (by repeat (first | (with_reducible first | exact HB.out | apply below_alloc | apply pw_below_drewN | apply below_drew1 | refine below_set ?_ GE109.out) | exact HB.out)) hb);clear BK109;clear HB;have BK109:=n0_;have HB:=n1_;clear n0_ n1_;(try clear hb)) | ((with_reducible refine gate_callee (f:=61) rfl ?_);refine goesL_ (some 12) rfl rfl Try.func61 (by kernel_rfl) rfl #[.int .i64 ji5,.int .i64 1,.int .i64 5] rfl (by (try simp only [List.map_toArray,List.map_cons,List.map_nil]);first | done | (simp only [hji5];rfl) | rfl | (simp only [List.length_drop,List.length_take];rfl)) ?_;(with_reducible refine (card_within.calls ji5 1 5 true _ A3.out).mono ?_);rintro e w' ⟨rfl,⟨nd,rfl⟩⟩;refine ⟨_,rfl,?_⟩;(try (rw [drewN_self w15];generalize hq_:World.drewN w15 _ = w15;have n0_:Aside0 (w15.heap[gb109]? = some (.cells #[.int .i64 0,.string (⟨#[]⟩:ByteArray)] 81 (0,0))):=⟨by rw [← hq_];exact (by (with_reducible repeat (first | refine blk_drewN ?_ _ | refine blk_drew ?_ | refine blk_alloc ?_ _));exact BK109.out)⟩;have n1_:Aside0 (Below w.heap.size w w15):=⟨by rw [← hq_];exact (by repeat (first | (with_reducible first | exact HB.out | apply below_alloc | apply pw_below_drewN | apply below_drew1 | refine below_set ?_ GE109.out) | exact HB.out))⟩;clear BK109 HB hq_;have BK109:=n0_;have HB:=n1_;clear n0_ n1_));have hcz16_0:w15.cell? ⟨gb109,0,none⟩ = some (.int .i64 0):=(blk_cell BK109.out 0).trans rfl;have hcz16_1:w15.cell? ⟨gb109,1,none⟩ = some (.string (⟨#[]⟩:ByteArray)):=(blk_cell BK109.out 1).trans rfl;have hfz16_0:=blk_frozen BK109.out 0;have hfz16_1:=blk_frozen BK109.out 1))
  refine bodyPost_ret (results_ct rfl _ _ gb109 81 #[.int .i64 ji5,.string a0] (0,0) _ rfl (by (with_reducible repeat (first | refine blk_drewN ?_ _ | refine blk_drew ?_ | refine blk_alloc ?_ _));refine blk_put (cs:=#[.int .i64 ji5,.string (⟨#[]⟩:ByteArray)]) ?_ 1 _ rfl;(with_reducible repeat (first | refine blk_drewN ?_ _ | refine blk_drew ?_ | refine blk_alloc ?_ _));refine blk_put (cs:=#[.int .i64 0,.string (⟨#[]⟩:ByteArray)]) ?_ 0 _ rfl;(with_reducible repeat (first | refine blk_drewN ?_ _ | refine blk_drew ?_ | refine blk_alloc ?_ _));exact BK109.out) Try.underlying81 rfl (by kernel_rfl)) rfl ?_
  exact ⟨by first | rfl | (simp [errW_none,errW_some] <;> rfl) | (simp only [← hji5,← hji7];first | rfl | (simp [errW_none,errW_some] <;> rfl)) | (simp [*,errW_none,errW_some] <;> rfl),by repeat (first | (with_reducible first | exact HB.out | apply below_alloc | apply pw_below_drewN | apply below_drew1 | refine below_set ?_ GE109.out) | exact HB.out)⟩
 rw [if_pos c8] at H
 have c8b0:((a0.size:Int) == (ji7)) = true:=beq_iff_eq.mpr c8
 have c8b1:((a0.size:Int) != (ji7)) = false:=bne_eq_false_iff_eq.mpr c8
 clear c8
 replace H:=Option.bind_eq_some_iff.mp H
 obtain ⟨t112,A90,H⟩:=H
 replace H:(some (ji5,a0,!t112)) = some (r1,r2,r3):=H
 have A9:=Aside0.mk A90
 clear A90
 simp only [Option.some.injEq,Prod.mk.injEq] at H
 obtain ⟨rfl,rfl,rfl⟩:=H
 go_enter Try.func65,Try.ntmps65
 go_wp2_with (first | ((with_reducible refine gate_dst (N:=2) rfl ?_);(try (refine gate_guard (by rfl) ?_;dsimp only));refine box_event ?hg (N:=2) ?hd (cs:=#[.int .i64 0,.string (⟨#[]⟩:ByteArray)]) (t:=81) ?hr ?_;(case hd=>rfl);(case hg=>rfl);(case hr=>first | (go_simp;done) | (go_simp;rfl));intro gb109 hg w10 hbox hb;have n0_:=Aside0.mk (below_step (by repeat (first | (with_reducible first | exact HB.out | apply below_alloc | apply pw_below_drewN | apply below_drew1) | exact HB.out)) hb);have n1_:=Aside0.mk (hbox);have n2_:=Aside0.mk ((by rw [hg];exact (below_size (by repeat (first | (with_reducible first | exact HB.out | apply below_alloc | apply pw_below_drewN | apply below_drew1) | exact HB.out))):w.heap.size ≤ gb109));have n3_:=Aside0.mk ((by rw [hg];exact (below_size (by repeat (first | (with_reducible first | exact HB.out | apply below_alloc | apply pw_below_drewN | apply below_drew1) | exact HB.out))):w.heap.size ≤ gb109));clear HB;have HB:=n0_;have BK109:=n1_;have GW109:=n2_;have GE109:=n3_;clear n0_ n1_ n2_ n3_;clear hb hbox hg) | ((with_reducible refine gate_callee (f:=94) rfl ?_);refine goesL_ (some 9) rfl rfl Try.func94 (by kernel_rfl) rfl #[.int .u64 (IntKind.u64.wrap ((a0.size:Int)))] rfl (by (try simp only [List.map_toArray,List.map_cons,List.map_nil]);first | done | rfl | (simp only [List.length_drop,List.length_take];rfl)) ?_;(with_reducible refine (bits_Len.calls (IntKind.u64.wrap ((a0.size:Int))) t110 _ A2.out).mono ?_);rintro e w11 ⟨rfl,hb⟩;refine ⟨_,rfl,?_⟩;have n0_:=Aside0.mk (blk_below (g:=gb109) (o:=.cells #[.int .i64 0,.string (⟨#[]⟩:ByteArray)] 81 (0,0)) (by (with_reducible repeat (first | refine blk_drewN ?_ _ | refine blk_drew ?_ | refine blk_alloc ?_ _));exact BK109.out) hb);have n1_:=Aside0.mk (below_step (by repeat (first | (with_reducible first | exact HB.out | apply below_alloc | apply pw_below_drewN | apply below_drew1 | refine below_set ?_ GE109.out) | exact HB.out)) hb);clear BK109;clear HB;have BK109:=n0_;have HB:=n1_;clear n0_ n1_;(try clear hb)) | ((with_reducible refine gate_callee (f:=61) rfl ?_);refine goesL_ (some 12) rfl rfl Try.func61 (by kernel_rfl) rfl #[.int .i64 ji5,.int .i64 1,.int .i64 5] rfl (by (try simp only [List.map_toArray,List.map_cons,List.map_nil]);first | done | (simp only [hji5];rfl) | rfl | (simp only [List.length_drop,List.length_take];rfl)) ?_;(with_reducible refine (card_within.calls ji5 1 5 true _ A3.out).mono ?_);rintro e w' ⟨rfl,⟨nd,rfl⟩⟩;refine ⟨_,rfl,?_⟩;(try (rw [drewN_self w11];generalize hq_:World.drewN w11 _ = w11;have n0_:Aside0 (w11.heap[gb109]? = some (.cells #[.int .i64 0,.string (⟨#[]⟩:ByteArray)] 81 (0,0))):=⟨by rw [← hq_];exact (by (with_reducible repeat (first | refine blk_drewN ?_ _ | refine blk_drew ?_ | refine blk_alloc ?_ _));exact BK109.out)⟩;have n1_:Aside0 (Below w.heap.size w w11):=⟨by rw [← hq_];exact (by repeat (first | (with_reducible first | exact HB.out | apply below_alloc | apply pw_below_drewN | apply below_drew1 | refine below_set ?_ GE109.out) | exact HB.out))⟩;clear BK109 HB hq_;have BK109:=n0_;have HB:=n1_;clear n0_ n1_))) | (go_at_call 95;(with_reducible refine (contains96.calls a0 t112 _ A9.out).mono ?_);rintro e w12 ⟨rfl,hb⟩;have n0_:=Aside0.mk (blk_below (g:=gb109) (o:=.cells #[.int .i64 0,.string (⟨#[]⟩:ByteArray)] 81 (0,0)) (by (with_reducible repeat (first | refine blk_drewN ?_ _ | refine blk_drew ?_ | refine blk_alloc ?_ _));exact BK109.out) hb);have n1_:=Aside0.mk (below_step (by repeat (first | (with_reducible first | exact HB.out | apply below_alloc | apply pw_below_drewN | apply below_drew1 | refine below_set ?_ GE109.out) | exact HB.out)) hb);clear BK109;clear HB;have BK109:=n0_;have HB:=n1_;clear n0_ n1_;(try clear hb);have hcz13_0:w12.cell? ⟨gb109,0,none⟩ = some (.int .i64 0):=(blk_cell BK109.out 0).trans rfl;have hcz13_1:w12.cell? ⟨gb109,1,none⟩ = some (.string (⟨#[]⟩:ByteArray)):=(blk_cell BK109.out 1).trans rfl;have hfz13_0:=blk_frozen BK109.out 0;have hfz13_1:=blk_frozen BK109.out 1))
 refine bodyPost_ret (results_ct rfl _ _ gb109 81 #[.int .i64 ji5,.string a0] (0,0) _ rfl (by (with_reducible repeat (first | refine blk_drewN ?_ _ | refine blk_drew ?_ | refine blk_alloc ?_ _));refine blk_put (cs:=#[.int .i64 ji5,.string (⟨#[]⟩:ByteArray)]) ?_ 1 _ rfl;(with_reducible repeat (first | refine blk_drewN ?_ _ | refine blk_drew ?_ | refine blk_alloc ?_ _));refine blk_put (cs:=#[.int .i64 0,.string (⟨#[]⟩:ByteArray)]) ?_ 0 _ rfl;(with_reducible repeat (first | refine blk_drewN ?_ _ | refine blk_drew ?_ | refine blk_alloc ?_ _));exact BK109.out) Try.underlying81 rfl (by kernel_rfl)) rfl ?_
 exact ⟨by first | rfl | (simp [errW_none,errW_some] <;> rfl) | (simp only [← hji5,← hji7];first | rfl | (simp [errW_none,errW_some] <;> rfl)) | (simp [*,errW_none,errW_some] <;> rfl),by repeat (first | (with_reducible first | exact HB.out | apply below_alloc | apply pw_below_drewN | apply below_drew1 | refine below_set ?_ GE109.out) | exact HB.out)⟩
mutual
def numnahref01_Vars.l0:Nat → ByteArray → Int → Option (Int)
 | 0,_,_=>none
 | k + 1,x0,x3=>if x3 ≤ 5 then (if 0 ≤ x3 then (if (x0.size:Int) = (shl .i64 1 x3) then (numnahref01_Vars.l1 k x0 x3 0) else (numnahref01_Vars.l0 k x0 (wrap64 (x3 + 1)))) else (none)) else (some 0)
def numnahref01_Vars.l1:Nat → ByteArray → Int → Int → Option (Int)
 | 0,_,_,_=>none
 | k + 1,x0,x3,x4=>if x4 < (x0.size:Int) then (if 0 ≤ x4 then (if (bt x0 x4) = 48 then (numnahref01_Vars.l1 k x0 x3 (wrap64 (x4 + 1))) else (if (bt x0 x4) = 49 then (numnahref01_Vars.l1 k x0 x3 (wrap64 (x4 + 1))) else (if (bt x0 x4) = 45 then (numnahref01_Vars.l1 k x0 x3 (wrap64 (x4 + 1))) else (some 0)))) else (none)) else (some x3)
end
def numnahref01_Vars.f (k:Nat) (a0:ByteArray):Option (Int):=numnahref01_Vars.l0 k a0 1
theorem numnahref01_Vars.mono_l:∀ k,(∀ y0 y1,LeO (numnahref01_Vars.l0 k y0 y1) (numnahref01_Vars.l0 (k + 1) y0 y1)) ∧ (∀ y0 y1 y2,LeO (numnahref01_Vars.l1 k y0 y1 y2) (numnahref01_Vars.l1 (k + 1) y0 y1 y2))
 | 0=>⟨fun _ _ r h=>by simp [numnahref01_Vars.l0] at h,fun _ _ _ r h=>by simp [numnahref01_Vars.l1] at h⟩
 | k + 1=>by
  obtain ⟨ih0,ih1⟩:=numnahref01_Vars.mono_l k
  refine ⟨?_,?_⟩
  ·intro y0 y1
   unfold numnahref01_Vars.l0
   repeat' first
   | (with_reducible exact ih0 _ _)
   | (with_reducible exact ih1 _ _ _)
   | (with_reducible exact LeO.refl _)
   | (with_reducible exact LeO.none _)
   | (with_reducible refine LeO.ite ?_ ?_)
   | (with_reducible refine LeO.bind ?_ (fun _=>?_))
   | exact ih0 _ _
   | exact ih1 _ _ _
   | exact LeO.none _
   | refine LeO.ite ?_ ?_
   | refine LeO.bind ?_ (fun _=>?_)
  intro y0 y1 y2
  unfold numnahref01_Vars.l1
  repeat' first
  | (with_reducible exact ih0 _ _)
  | (with_reducible exact ih1 _ _ _)
  | (with_reducible exact LeO.refl _)
  | (with_reducible exact LeO.none _)
  | (with_reducible refine LeO.ite ?_ ?_)
  | (with_reducible refine LeO.bind ?_ (fun _=>?_))
  | exact ih0 _ _
  | exact ih1 _ _ _
  | exact LeO.none _
  | refine LeO.ite ?_ ?_
  | refine LeO.bind ?_ (fun _=>?_)
theorem numnahref01_Vars.mono:∀ a0 k,LeO (numnahref01_Vars.f k a0) (numnahref01_Vars.f (k + 1) a0):=by
 intro a0 k
 obtain ⟨ih0,ih1⟩:=numnahref01_Vars.mono_l k
 unfold numnahref01_Vars.f
 repeat' first
   | (with_reducible exact ih0 _ _)
   | (with_reducible exact ih1 _ _ _)
   | (with_reducible exact LeO.refl _)
   | (with_reducible exact LeO.none _)
   | (with_reducible refine LeO.ite ?_ ?_)
   | (with_reducible refine LeO.bind ?_ (fun _=>?_))
   | exact ih0 _ _
   | exact ih1 _ _ _
   | exact LeO.none _
   | refine LeO.ite ?_ ?_
   | refine LeO.bind ?_ (fun _=>?_)
theorem numnahref01_Vars.calls (k:Nat) (a0:ByteArray) (r:Int) (w:World) (h:numnahref01_Vars.f k a0 = some r) :
  Calls Try.prog 24 #[.string a0] w fun e w'=>e = .returned (.int .i64 r) ∧ Drawn0 w w':=by
 have H:(numnahref01_Vars.l0 k a0 1) = some r:=h
 clear h
 have H':=Aside0.mk H
 clear H
 go_enter Try.func24,Try.ntmps24
 go_wp2
 go_loopg [3] k (fun kq v3 w'=>∃ (x3_1:Int),v3 = .int .i64 x3_1 ∧ Aside0 (numnahref01_Vars.l0 kq a0 x3_1 = some r) ∧ Aside0 (kq ≤ k) ∧ Drawn0 w w')
 case atStart=>exact ⟨(1),(by first | rfl | (simp;done) | (simp [*];done)),H',⟨Nat.le_refl _⟩,by repeat (first | exact Drawn0.refl _ | apply Drawn0.step)⟩
 case round =>
  clear H'
  obtain ⟨x3_1,rfl,HA,HK1,⟨m1,rfl⟩⟩:=hrel
  cases gk with
  | zero=>exact absurd HA.out (by simp [numnahref01_Vars.l0])
  | succ k1 =>
   have H:=HA.out
   clear HA
   simp only [numnahref01_Vars.l0] at H
   by_cases c2:x3_1 ≤ 5
   case neg =>
    rw [if_neg c2] at H
    have c2b0:decide (x3_1 ≤ 5) = false:=decide_eq_false c2
    clear c2
    obtain rfl:=Option.some.inj H
    go_wp2
    go_ret
    exact ⟨by first | rfl | (simp;done) | (simp [*];done),by repeat (first | exact Drawn0.refl _ | apply Drawn0.step)⟩
   rw [if_pos c2] at H
   have c2b0:decide (x3_1 ≤ 5) = true:=decide_eq_true c2
   clear c2
   by_cases c3:0 ≤ x3_1
   case neg =>
    rw [if_neg c3] at H
    exact absurd H (by simp)
   rw [if_pos c3] at H
   have c3b0:=eq_true c3
   have c3b1:decide (0 ≤ x3_1) = true:=decide_eq_true c3
   clear c3
   obtain ⟨ji4,hji4⟩:∃ j_:Int,(shl .i64 1 x3_1) = j_:=⟨_,rfl⟩
   replace H:(if (a0.size:Int) = (ji4) then (numnahref01_Vars.l1 k1 a0 x3_1 0) else (numnahref01_Vars.l0 k1 a0 (wrap64 (x3_1 + 1)))) = some r:=by first | (rw [hji4] at H;exact H) | (simp only [hji4] at H ⊢;exact H)
   have hji4_:(IntKind.i64.wrap (1 * 2 ^ min x3_1.toNat 64)) = ji4:=hji4
   have hji4z:x3_1 ≤ 64 → (IntKind.i64.wrap (1 * 2 ^ x3_1.toNat)) = ji4:=shl_small hji4
   have hji4u:(IntKind.i64.wrap (2 ^ min x3_1.toNat 64)) = ji4:=by have h_:=hji4_;rw [Int.one_mul] at h_;exact h_
   have hji4v:x3_1 ≤ 64 → (IntKind.i64.wrap (2 ^ x3_1.toNat)) = ji4:=fun hle_=>by have h_:=hji4z hle_;rw [Int.one_mul] at h_;exact h_
   have hji4y:(wrap64 (1 * 2 ^ min x3_1.toNat 64)) = ji4:=(i64_w _).symm.trans hji4_
   have hji4x:x3_1 ≤ 64 → (wrap64 (1 * 2 ^ x3_1.toNat)) = ji4:=fun h_=>(i64_w _).symm.trans (hji4z h_)
   by_cases c5:(a0.size:Int) = (ji4)
   case neg =>
    rw [if_neg c5] at H
    have c5b0:((a0.size:Int) == (ji4)) = false:=beq_eq_false_iff_ne.mpr c5
    have c5b1:((a0.size:Int) != (ji4)) = true:=bne_iff_ne.mpr c5
    have H':=Aside0.mk H
    clear H
    go_wp2
    go_roundg k1
    case measure=>have:=HK1.out;omega
    case rel=>exact ⟨(wrap64 (x3_1 + 1)),(by first | rfl | (simp;done) | (simp [*];done)),H',⟨by have:=HK1.out;omega⟩,by repeat (first | exact Drawn0.refl _ | apply Drawn0.step)⟩
   rw [if_pos c5] at H
   have c5b0:((a0.size:Int) == (ji4)) = true:=beq_iff_eq.mpr c5
   have c5b1:((a0.size:Int) != (ji4)) = false:=bne_eq_false_iff_eq.mpr c5
   clear c5
   have H':=Aside0.mk H
   clear H
   go_wp2
   go_loopg [4] k1 (fun kq v4 w'=>∃ (x4_2:Int),v4 = .int .i64 x4_2 ∧ Aside0 (numnahref01_Vars.l1 kq a0 x3_1 x4_2 = some r) ∧ Aside0 (kq ≤ k1) ∧ Drawn0 w w')
   case atStart=>exact ⟨(0),(by first | rfl | (simp;done) | (simp [*];done)),H',⟨Nat.le_refl _⟩,by repeat (first | exact Drawn0.refl _ | apply Drawn0.step)⟩
   case round =>
    clear H'
    try clear c2
    try clear c2b0
    try clear p2
    try clear c3
    try clear c3b0
    try clear c3b1
    try clear c5
    try clear c5b0
    try clear c5b1
    obtain ⟨x4_2,rfl,HA,HK2,⟨m2,rfl⟩⟩:=hrel
    cases gk with
    | zero=>exact absurd HA.out (by simp [numnahref01_Vars.l1])
    | succ k2 =>
     have H:=HA.out
     clear HA
     simp only [numnahref01_Vars.l1] at H
     by_cases c6:x4_2 < (a0.size:Int)
     case neg =>
      rw [if_neg c6] at H
      have c6b0:decide (x4_2 < (a0.size:Int)) = false:=decide_eq_false c6
      clear c6
      obtain rfl:=Option.some.inj H
      go_wp2
      go_ret
      exact ⟨by first | rfl | (simp;done) | (simp only [← hji4] <;> (first | rfl | simp)) | (simp [*];done),by repeat (first | exact Drawn0.refl _ | apply Drawn0.step)⟩
     rw [if_pos c6] at H
     have c6b0:decide (x4_2 < (a0.size:Int)) = true:=decide_eq_true c6
     clear c6
     by_cases c7:0 ≤ x4_2
     case neg =>
      rw [if_neg c7] at H
      exact absurd H (by simp)
     rw [if_pos c7] at H
     have c7b0:decide (0 ≤ x4_2) = true:=decide_eq_true c7
     clear c7
     by_cases c9:(bt a0 x4_2) = 48
     ·rw [if_pos c9] at H
      have c9b0:((bt a0 x4_2) == 48) = true:=beq_iff_eq.mpr c9
      have c9b1:((bt a0 x4_2) != 48) = false:=bne_eq_false_iff_eq.mpr c9
      clear c9
      have H':=Aside0.mk H
      clear H
      have p8:0 ≤ (x4_2:Int):=of_decide_eq_true (by first | (with_reducible assumption) | assumption)
      have q8:x4_2 < (a0.size:Int):=of_decide_eq_true (by first | (with_reducible assumption) | assumption)
      have hx8:=bt_at a0 x4_2
      replace p8:=eq_true p8
      replace q8:=eq_true q8
      go_wp2
      go_roundg k2
      case measure=>have:=HK1.out;have:=HK2.out;omega
      case rel=>exact ⟨(wrap64 (x4_2 + 1)),(by first | rfl | (simp;done) | (simp [*];done)),H',⟨by have:=HK1.out;have:=HK2.out;omega⟩,by repeat (first | exact Drawn0.refl _ | apply Drawn0.step)⟩
     rw [if_neg c9] at H
     have c9b0:((bt a0 x4_2) == 48) = false:=beq_eq_false_iff_ne.mpr c9
     have c9b1:((bt a0 x4_2) != 48) = true:=bne_iff_ne.mpr c9
     by_cases c11:(bt a0 x4_2) = 49
     ·rw [if_pos c11] at H
      have c11b0:((bt a0 x4_2) == 49) = true:=beq_iff_eq.mpr c11
      have c11b1:((bt a0 x4_2) != 49) = false:=bne_eq_false_iff_eq.mpr c11
      clear c11
      have H':=Aside0.mk H
      clear H
      have p8:0 ≤ (x4_2:Int):=of_decide_eq_true (by first | (with_reducible assumption) | assumption)
      have q8:x4_2 < (a0.size:Int):=of_decide_eq_true (by first | (with_reducible assumption) | assumption)
      have hx8:=bt_at a0 x4_2
      replace p8:=eq_true p8
      replace q8:=eq_true q8
      have p10:0 ≤ (x4_2:Int):=of_decide_eq_true (by first | (with_reducible assumption) | assumption)
      have q10:x4_2 < (a0.size:Int):=of_decide_eq_true (by first | (with_reducible assumption) | assumption)
      have hx10:=bt_at a0 x4_2
      replace p10:=eq_true p10
      replace q10:=eq_true q10
      go_wp2
      go_roundg k2
      case measure=>have:=HK1.out;have:=HK2.out;omega
      case rel=>exact ⟨(wrap64 (x4_2 + 1)),(by first | rfl | (simp;done) | (simp [*];done)),H',⟨by have:=HK1.out;have:=HK2.out;omega⟩,by repeat (first | exact Drawn0.refl _ | apply Drawn0.step)⟩
     rw [if_neg c11] at H
     have c11b0:((bt a0 x4_2) == 49) = false:=beq_eq_false_iff_ne.mpr c11
     have c11b1:((bt a0 x4_2) != 49) = true:=bne_iff_ne.mpr c11
     by_cases c13:(bt a0 x4_2) = 45
     case neg =>
      rw [if_neg c13] at H
      have c13b0:((bt a0 x4_2) == 45) = false:=beq_eq_false_iff_ne.mpr c13
      have c13b1:((bt a0 x4_2) != 45) = true:=bne_iff_ne.mpr c13
      obtain rfl:=Option.some.inj H
      have p8:0 ≤ (x4_2:Int):=of_decide_eq_true (by first | (with_reducible assumption) | assumption)
      have q8:x4_2 < (a0.size:Int):=of_decide_eq_true (by first | (with_reducible assumption) | assumption)
      have hx8:=bt_at a0 x4_2
      replace p8:=eq_true p8
      replace q8:=eq_true q8
      have p10:0 ≤ (x4_2:Int):=of_decide_eq_true (by first | (with_reducible assumption) | assumption)
      have q10:x4_2 < (a0.size:Int):=of_decide_eq_true (by first | (with_reducible assumption) | assumption)
      have hx10:=bt_at a0 x4_2
      replace p10:=eq_true p10
      replace q10:=eq_true q10
      have p12:0 ≤ (x4_2:Int):=of_decide_eq_true (by first | (with_reducible assumption) | assumption)
      have q12:x4_2 < (a0.size:Int):=of_decide_eq_true (by first | (with_reducible assumption) | assumption)
      have hx12:=bt_at a0 x4_2
      replace p12:=eq_true p12
      replace q12:=eq_true q12
      go_wp2
      go_ret
      exact ⟨by first | rfl | (simp;done) | (simp only [← hji4] <;> (first | rfl | simp)) | (simp [*];done),by repeat (first | exact Drawn0.refl _ | apply Drawn0.step)⟩
     rw [if_pos c13] at H
     have c13b0:((bt a0 x4_2) == 45) = true:=beq_iff_eq.mpr c13
     have c13b1:((bt a0 x4_2) != 45) = false:=bne_eq_false_iff_eq.mpr c13
     clear c13
     have H':=Aside0.mk H
     clear H
     have p8:0 ≤ (x4_2:Int):=of_decide_eq_true (by first | (with_reducible assumption) | assumption)
     have q8:x4_2 < (a0.size:Int):=of_decide_eq_true (by first | (with_reducible assumption) | assumption)
     have hx8:=bt_at a0 x4_2
     replace p8:=eq_true p8
     replace q8:=eq_true q8
     have p10:0 ≤ (x4_2:Int):=of_decide_eq_true (by first | (with_reducible assumption) | assumption)
     have q10:x4_2 < (a0.size:Int):=of_decide_eq_true (by first | (with_reducible assumption) | assumption)
     have hx10:=bt_at a0 x4_2
     replace p10:=eq_true p10
     replace q10:=eq_true q10
     have p12:0 ≤ (x4_2:Int):=of_decide_eq_true (by first | (with_reducible assumption) | assumption)
     have q12:x4_2 < (a0.size:Int):=of_decide_eq_true (by first | (with_reducible assumption) | assumption)
     have hx12:=bt_at a0 x4_2
     replace p12:=eq_true p12
     replace q12:=eq_true q12
     go_wp2
     go_roundg k2
     case measure=>have:=HK1.out;have:=HK2.out;omega
     case rel=>exact ⟨(wrap64 (x4_2 + 1)),(by first | rfl | (simp;done) | (simp [*];done)),H',⟨by have:=HK1.out;have:=HK2.out;omega⟩,by repeat (first | exact Drawn0.refl _ | apply Drawn0.step)⟩
end Go.Proofs.Ythpahlkhiknofaa.G
set_option linter.unusedSectionVars false
namespace Go.Proofs.Ythpahlkhiknofaa.P
open Go Go.RowKit Go.Proofs.Ythpahlkhiknofaa.M Go.Proofs.Ythpahlkhiknofaa.G
open Go.Proofs.YthpahlkhiknofaaW.PrintWords Go.Proofs.YthpahlkhiknofaaW.PrintMore
def lg (s:Nat):Nat:=if s = 2 then 1 else if s = 4 then 2 else if s = 8 then 3 else if s = 16 then 4 else if s = 32 then 5 else 0
theorem lg_table:∀ s:Fin 41,(lg s.val = 0 → ¬ (2 ≤ Lib.bitLen s.val ∧ Lib.bitLen s.val ≤ 6 ∧ s.val = 2 ^ (Lib.bitLen s.val - 1))) ∧ (lg s.val ≠ 0 → Lib.bitLen s.val = lg s.val + 1 ∧ s.val = 2 ^ lg s.val ∧ lg s.val ≤ 5) ∧ Lib.bitLen s.val ≤ 6:=by decide +kernel
/-- The number of variables of a function;0: it is none. -/
def fnN (c:ByteArray):Nat:=if okC c = true then lg c.size else 0
theorem fnN_pos {c:ByteArray} (hc:c.size ≤ 40) (h:fnN c ≠ 0):okC c = true ∧ c.size = 2 ^ fnN c ∧ 1 ≤ fnN c ∧ fnN c ≤ 5 ∧ c.size ≤ 32:=by
  unfold fnN at h ⊢
  by_cases ho:okC c = true
  · rw [if_pos ho] at h ⊢
    have:=(lg_table ⟨c.size,by omega⟩).2.1 h
    simp only at this
    have h2:2 ^ lg c.size ≤ 2 ^ 5:=Nat.pow_le_pow_right (by decide) this.2.2
    exact ⟨ho,this.2.1,by omega,this.2.2,by omega⟩
  · rw [if_neg ho] at h;exact absurd rfl h
section
variable {c:ByteArray} (hc:c.size ≤ 40)
include hc
theorem newF:∃ m:Int,(fnN c ≠ 0 → m = (fnN c:Int)) ∧ card_newFunction.f c = some (m,c,decide (fnN c ≠ 0)):=by
  have ht:=lg_table ⟨c.size,by omega⟩
  simp only at ht
  have hu:IntKind.u64.wrap (c.size:Int) = (c.size:Int):=wrap_u64_nat _ (by omega)
  have hb:bits_Len.f (c.size:Int) = some (Lib.bitLen c.size:Int):=by
    unfold bits_Len.f
    rw [if_pos (by omega),Int.toNat_natCast]
  have hw:wrap64 ((Lib.bitLen c.size:Int) - 1) = (Lib.bitLen c.size:Int) - 1:=wrap_id (by omega) (by omega)
  unfold card_newFunction.f
  rw [hu,hb,Option.bind_some,hw]
  unfold card_within.f
  by_cases hl:lg c.size = 0
  · have hn:fnN c = 0:=by unfold fnN;rw [hl];split <;> rfl
    have h1:=ht.1 hl
    refine ⟨(Lib.bitLen c.size:Int) - 1,fun h=>absurd hn h,?_⟩
    have hd:decide (fnN c ≠ 0) = false:=by rw [hn];rfl
    rw [hd]
    by_cases a1:(Lib.bitLen c.size:Int) - 1 ≥ 1
    · rw [if_pos a1,Option.bind_some]
      by_cases a2:(Lib.bitLen c.size:Int) - 1 ≤ 5
      · rw [if_pos (decide_eq_true a2),if_pos (by omega)]
        have e:(Lib.bitLen c.size:Int) - 1 = ((Lib.bitLen c.size - 1:Nat):Int):=by omega
        rw [e,shl_one (by omega),if_neg (fun h=>h1 ⟨by omega,by omega,by exact_mod_cast h⟩)]
      · rw [if_neg (by rw [decide_eq_false a2];decide)]
    · rw [if_neg a1,Option.bind_some,if_neg (by decide)]
  · obtain ⟨h1,h2,h3⟩:=ht.2.1 hl
    have e:(Lib.bitLen c.size:Int) - 1 = (lg c.size:Int):=by omega
    rw [e,if_pos (by omega),Option.bind_some,if_pos (decide_eq_true (by omega)),if_pos (by omega),shl_one (by omega),if_pos (by exact_mod_cast h2)]
    refine ⟨(lg c.size:Int),fun h=>?_,?_⟩
    · unfold fnN at h ⊢
      by_cases ho:okC c = true
      · rw [if_pos ho]
      · rw [if_neg ho] at h;exact absurd rfl h
    · unfold contains96.f
      rw [Option.bind_some,Bool.not_not]
      congr 3
      unfold fnN
      by_cases ho:okC c = true
      · rw [if_pos ho,ho,decide_eq_true hl]
      · have ho':okC c = false:=by simpa using ho
        rw [if_neg ho,ho'];rfl
theorem vars_l1 (n:Nat) (hn:c.size = 2 ^ n):∀ d i,i + d = c.size → Ev (fun k=>numnahref01_Vars.l1 k c (n:Int) (i:Int)) (if allF (isC c) d i = true then (n:Int) else 0):=by
  intro d
  induction d with
  | zero =>
    intro i hi
    refine Ev.step (f:=fun _=>some (n:Int)) (fun k=>?_) (Ev.now _)
    rw [numnahref01_Vars.l1,if_neg (by omega)]
  | succ d ih =>
    intro i hi
    have hn:=ih (i + 1) (by omega)
    refine Ev.step (fun k=>by rw [numnahref01_Vars.l1,if_pos (by omega),if_pos (by omega),wrap_succ (by omega)]) ?_
    rw [allF]
    by_cases h1:bt c (i:Int) = 48
    · have:isC c i = true:=by unfold isC;simp [h1]
      rw [this,Bool.true_and]
      exact Ev.congr (fun k=>if_pos h1) hn
    · by_cases h2:bt c (i:Int) = 49
      · have:isC c i = true:=by unfold isC;simp [h2]
        rw [this,Bool.true_and]
        exact Ev.congr (fun k=>if_neg h1) (Ev.congr (fun k=>if_pos h2) hn)
      · by_cases h3:bt c (i:Int) = 45
        · have:isC c i = true:=by unfold isC;simp [h3]
          rw [this,Bool.true_and]
          exact Ev.congr (fun k=>if_neg h1) (Ev.congr (fun k=>if_neg h2) (Ev.congr (fun k=>if_pos h3) hn))
        · have:isC c i = false:=by unfold isC;simp [h1,h2,h3]
          rw [this]
          exact Ev.congr (fun k=>if_neg h1) (Ev.congr (fun k=>if_neg h2) (Ev.congr (fun k=>if_neg h3) (Ev.now _)))
theorem vars_l0:∀ d i,1 ≤ i → i + d = 6 → (lg c.size ≠ 0 → i ≤ lg c.size) → Ev (fun k=>numnahref01_Vars.l0 k c (i:Int)) (fnN c:Int):=by
  have ht:=lg_table ⟨c.size,by omega⟩
  simp only at ht
  intro d
  induction d with
  | zero =>
    intro i h1 hi hl
    have h0:lg c.size = 0:=by
      apply Classical.byContradiction
      intro h
      have:=(ht.2.1 h).2.2
      have:=hl h
      omega
    have hn:fnN c = 0:=by unfold fnN;rw [h0];split <;> rfl
    refine Ev.step (f:=fun _=>some (fnN c:Int)) (fun k=>?_) (Ev.now _)
    rw [numnahref01_Vars.l0,if_neg (by omega),hn];rfl
  | succ d ih =>
    intro i h1 hi hl
    refine Ev.step (fun k=>by rw [numnahref01_Vars.l0,if_pos (by omega),if_pos (by omega),shl_one (by omega),wrap_succ (by omega)]) ?_
    by_cases hs:(c.size:Int) = ((2 ^ i:Nat):Int)
    · refine Ev.congr (fun k=>if_pos hs) ?_
      have hs':c.size = 2 ^ i:=by exact_mod_cast hs
      have h:=vars_l1 hc i hs' c.size 0 (by omega)
      have e:(if allF (isC c) c.size 0 = true then (i:Int) else 0) = (fnN c:Int):=by
        have hli:lg c.size = i:=by
          rcases (by omega:i = 1 ∨ i = 2 ∨ i = 3 ∨ i = 4 ∨ i = 5) with rfl | rfl | rfl | rfl | rfl <;> rw [hs'] <;> decide
        unfold fnN okC
        rw [hli]
        split <;> rfl
      rw [e] at h
      exact h
    · refine Ev.congr (fun k=>if_neg hs) (ih (i + 1) (by omega) (by omega) (fun h=>?_))
      have h2:=hl h
      have h3:=(ht.2.1 h).2.1
      by_cases e:i = lg c.size
      · exact absurd (by rw [e];exact_mod_cast h3) hs
      · omega
theorem ev_vars:Ev (fun k=>numnahref01_Vars.f k c) (fnN c:Int):=vars_l0 hc 5 1 (by omega) (by omega) (fun h=>by omega)
end
end Go.Proofs.Ythpahlkhiknofaa.P
set_option linter.unusedSectionVars false
namespace Go.Proofs.Ythpahlkhiknofaa.P
open Go Go.RowKit Go.Proofs.YthpahlkhiknofaaW.PrintWords
theorem data_get {s:ByteArray} {i:Nat} (h:i < s.size):s.data.toList[i]'(by rw [data_length];exact h) = s[i]:=by
 rw [Array.getElem_toList];rfl
def noH (s:ByteArray):Bool:=allF (fun i=>decide (bt s (i:Int) ≠ 45)) s.size 0
theorem indexByte_pos (c:UInt8):∀ (l:List UInt8),decide (0 ≤ Lib.indexByte l c) = l.any (· == c)
 | []=>rfl
 | b :: l=>by
  have ih:=indexByte_pos c l
  have hg:=Lib.indexByte_ge l c
  rw [Lib.indexByte,List.any_cons]
  by_cases hb:(b == c) = true
  ·rw [if_pos hb,hb];rfl
  rw [if_neg hb]
  have hb':(b == c) = false:=by simpa using hb
  rw [hb',Bool.false_or,← ih]
  by_cases h:Lib.indexByte l c = -1
  ·rw [h];rfl
  rw [if_neg (by simpa using h)]
  rw [decide_eq_true (by omega),decide_eq_true (by omega)]
theorem any_hyphen (s:ByteArray):decide (0 ≤ Lib.indexByte s.data.toList 45) = !noH s:=by
 rw [indexByte_pos,Bool.eq_iff_iff,List.any_eq_true,Bool.not_eq_true',← Bool.not_eq_true]
 unfold noH
 rw [allF_iff]
 constructor
 ·rintro ⟨x,hx,he⟩ hall
  obtain ⟨i,hi,rfl⟩:=List.getElem_of_mem hx
  have hi':i < s.size:=by rw [← data_length];exact hi
  have:=hall i (by omega) (by omega)
  rw [decide_eq_true_eq] at this
  apply this
  rw [bt_get hi']
  have e:s[i] = 45:=by rw [← data_get hi'];simpa using he
  rw [e];rfl
 intro h
 have:∃ i,i < s.size ∧ bt s (i:Int) = 45:=by
  apply Classical.byContradiction
  intro hno
  apply h
  intro j _ hj
  rw [decide_eq_true_eq]
  exact fun he=>hno ⟨j,by omega,he⟩
 obtain ⟨i,hi,he⟩:=this
 refine ⟨s.data.toList[i]'(by rw [data_length];exact hi),List.getElem_mem _,?_⟩
 rw [data_get hi]
 rw [bt_get hi] at he
 have:s[i] = 45:=by
  rw [← UInt8.toNat_inj]
  show s[i].toNat = 45
  omega
 rw [this];rfl
end Go.Proofs.Ythpahlkhiknofaa.P
namespace Go.Proofs.Ythpahlkhiknofaa.G
open Go Go.RowKit Go.Proofs.YthpahlkhiknofaaW.PrintWords
def strings_Contains.f (a0 a1:ByteArray):Option Bool:=if a1 = ⟨#[45]⟩ then some (!P.noH a0) else none
theorem strings_Contains.calls (a0 a1:ByteArray) (r:Bool) (w:World) (h:strings_Contains.f a0 a1 = some r):Calls Try.prog 92 #[.string a0,.string a1] w fun e w'=>e = .returned (.bool r) ∧ Below w.heap.size w w':=by
 unfold strings_Contains.f at h
 by_cases hb:a1 = ⟨#[45]⟩
 case neg =>
  rw [if_neg hb] at h;cases h
 rw [if_pos hb] at h
 obtain rfl:=Option.some.inj h
 subst hb
 refine (Try.strings_Contains_one a0 45 w).mono fun e w' he=>?_
 obtain ⟨rfl,rfl⟩:=he
 exact ⟨by rw [P.any_hyphen],Below.refl _ _⟩
end Go.Proofs.Ythpahlkhiknofaa.G
namespace Go.Proofs.Ythpahlkhiknofaa.G
open Go.RowKit Go.Proofs.YthpahlkhiknofaaW.PrintWords Go.Proofs.YthpahlkhiknofaaW.PrintLast Go.Proofs.YthpahlkhiknofaaW.PrintMore
set_option maxHeartbeats 8000000
set_option maxRecDepth 100000
attribute [local go_sem] max2_int min2_int max_two min_two max_three min_three max_four min_four   -- for this text's walks alone
def card_newTotal.f (a0:ByteArray):Option (Int × ByteArray × Bool):=(card_newFunction.f a0).bind fun bt116=>(if bt116.2.2 = true then ((strings_Contains.f a0 (⟨#[45]⟩:ByteArray)).bind fun t120=>(some (bt116.1,bt116.2.1,!t120))) else (some (bt116.1,bt116.2.1,false)))
def card_newTotal.T2:Bool × List (List Nat × List Nat):=(true,[([],[]),([],[]),([1],[1]),([2],[2]),([3,2,2],[2,3]),([4,2],[2,4]),([2,5],[2,5]),([0,4,0],[0]),([6,7,0,1,2,3,4,5,6,7],[6])])
def card_newTotal.B2:List Nat:=[0,0,2,6,14,30,62,31,255]
theorem card_newTotal.tab2:rtab .any (opsOf Try.f58 2) = card_newTotal.T2:=by kernel_rfl
theorem card_newTotal.bits2:waitsOk card_newTotal.T2.2 card_newTotal.B2 = true:=by kernel_rfl
theorem card_newTotal.calls (a0:ByteArray) (r1:Int) (r2:ByteArray) (r3:Bool) (w:World) (h:card_newTotal.f a0 = some (r1,r2,r3)) :
  Calls Try.prog 58 #[.string a0] w fun e w'=>e = .returned (.tuple #[.agg #[.int .i64 r1,.string r2],.bool r3]) ∧ Below w.heap.size w w':=by
 have hu81:=Try.underlying81
 have HB:=Aside0.mk (Below.refl w.heap.size w)
 have H:((card_newFunction.f a0).bind fun bt116=>(if bt116.2.2 = true then ((strings_Contains.f a0 (⟨#[45]⟩:ByteArray)).bind fun t120=>(some (bt116.1,bt116.2.1,!t120))) else (some (bt116.1,bt116.2.1,false)))) = some (r1,r2,r3):=h
 clear h
 replace H:=Option.bind_eq_some_iff.mp H
 obtain ⟨⟨t116,t117,t118⟩,A20,H⟩:=H
 replace H:(if t118 = true then ((strings_Contains.f a0 (⟨#[45]⟩:ByteArray)).bind fun t120=>(some (t116,t117,!t120))) else (some (t116,t117,false))) = some (r1,r2,r3):=H
 have A2:=Aside0.mk A20
 clear A20
 by_cases c3:t118 = true
 case neg =>
  replace c3:=Bool.eq_false_iff.mpr c3
  subst c3
  have H1:(some (t116,t117,false)) = some (r1,r2,r3):=by rw [if_neg (show ¬ (false = true) by decide)] at H;exact H
  clear H
  have H:=H1
  clear H1
  simp only [Option.some.injEq,Prod.mk.injEq] at H
  obtain ⟨rfl,rfl,rfl⟩:=H
  go_enter Try.func58,Try.ntmps58
  try go_wp2_with (first | ((with_reducible refine gate_dst (N:=2) rfl ?_);refine box_event ?hg (N:=2) ?hd (cs:=#[.int .i64 0,.string (⟨#[]⟩:ByteArray)]) (t:=81) ?hr ?_;(case hd=>rfl);(case hg=>rfl);(case hr=>first | (go_simp;done) | (go_simp;rfl));intro gb115 hg w15 hbox hb;have n0_:=Aside0.mk (below_step (by repeat (first | (with_reducible first | exact HB.out | apply below_alloc | apply pw_below_drewN | apply below_drew1) | exact HB.out)) hb);have n1_:=Aside0.mk (hbox);have n2_:=Aside0.mk ((by rw [hg];exact (below_size (by repeat (first | (with_reducible first | exact HB.out | apply below_alloc | apply pw_below_drewN | apply below_drew1) | exact HB.out))):w.heap.size ≤ gb115));have n3_:=Aside0.mk ((by rw [hg];exact (below_size (by repeat (first | (with_reducible first | exact HB.out | apply below_alloc | apply pw_below_drewN | apply below_drew1) | exact HB.out))):w.heap.size ≤ gb115));clear HB;have HB:=n0_;have BK115:=n1_;have GW115:=n2_;have GE115:=n3_;clear n0_ n1_ n2_ n3_;clear hb hbox hg) | ((with_reducible refine gate_callee (f:=65) rfl ?_);refine goesL_ (some 8) rfl rfl Try.func65 (by kernel_rfl) rfl #[.string a0] rfl (by (try simp only [List.map_toArray,List.map_cons,List.map_nil]);first | done | rfl | (simp only [List.length_drop,List.length_take];rfl)) ?_;(with_reducible refine (card_newFunction.calls a0 t116 t117 false _ A2.out).mono ?_);rintro e w16 ⟨rfl,hb⟩;refine ⟨_,rfl,?_⟩;have n0_:=Aside0.mk (blk_below (g:=gb115) (o:=.cells #[.int .i64 0,.string (⟨#[]⟩:ByteArray)] 81 (0,0)) (by (with_reducible repeat (first | refine blk_drewN ?_ _ | refine blk_drew ?_ | refine blk_alloc ?_ _));exact BK115.out) hb);have n1_:=Aside0.mk (below_step (by repeat (first | (with_reducible first | exact HB.out | apply below_alloc | apply pw_below_drewN | apply below_drew1 | refine below_set ?_ GE115.out) | exact HB.out)) hb);clear BK115;clear HB;have BK115:=n0_;have HB:=n1_;clear n0_ n1_;(try clear hb)) | ((with_reducible refine gate_dst (N:=4) rfl ?_);refine box_event ?hg (N:=4) ?hd (cs:=#[.int .i64 0,.string (⟨#[]⟩:ByteArray)]) (t:=81) ?hr ?_;(case hd=>rfl);(case hg=>rfl);(case hr=>first | (go_simp;done) | (go_simp;rfl));intro gb119 hg w17 hbox hb;have n0_:=Aside0.mk (blk_below (g:=gb115) (o:=.cells #[.int .i64 0,.string (⟨#[]⟩:ByteArray)] 81 (0,0)) (by (with_reducible repeat (first | refine blk_drewN ?_ _ | refine blk_drew ?_ | refine blk_alloc ?_ _));exact BK115.out) hb);have n1_:=Aside0.mk (below_step (by repeat (first | (with_reducible first | exact HB.out | apply below_alloc | apply pw_below_drewN | apply below_drew1 | refine below_set ?_ GE115.out) | exact HB.out)) hb);have n2_:=Aside0.mk (hbox);have n3_:=Aside0.mk ((by rw [hg];exact (below_size (by repeat (first | (with_reducible first | exact HB.out | apply below_alloc | apply pw_below_drewN | apply below_drew1 | refine below_set ?_ GE115.out) | exact HB.out))):w.heap.size ≤ gb119));have n4_:=Aside0.mk ((by rw [hg];exact (below_size (by repeat (first | (with_reducible first | exact HB.out | apply below_alloc | apply pw_below_drewN | apply below_drew1 | refine below_set ?_ GE115.out) | exact HB.out))):w.heap.size ≤ gb119));have n5_:=Aside0.mk ((by rw [hg];exact Nat.ne_of_lt (blk_lt (g:=gb115) (o:=.cells #[.int .i64 0,.string (⟨#[]⟩:ByteArray)] 81 (0,0)) (by (with_reducible repeat (first | refine blk_drewN ?_ _ | refine blk_drew ?_ | refine blk_alloc ?_ _));exact BK115.out)):gb115 ≠ gb119));have n6_:=Aside0.mk ((by rw [hg];exact Nat.ne_of_gt (blk_lt (g:=gb115) (o:=.cells #[.int .i64 0,.string (⟨#[]⟩:ByteArray)] 81 (0,0)) (by (with_reducible repeat (first | refine blk_drewN ?_ _ | refine blk_drew ?_ | refine blk_alloc ?_ _));exact BK115.out)):gb119 ≠ gb115));clear BK115;clear HB;have BK115:=n0_;have HB:=n1_;have BK119:=n2_;have GW119:=n3_;have GE119:=n4_;have NB115_119:=n5_;have NB119_115:=n6_;clear n0_ n1_ n2_ n3_ n4_ n5_ n6_;clear hb hbox hg;have hnb18:=NB119_115.out;have hnc18:=NB115_119.out;have hcz19_0:w17.cell? ⟨gb119,0,none⟩ = some (.int .i64 0):=(blk_cell BK119.out 0).trans rfl;have hcz19_1:w17.cell? ⟨gb119,1,none⟩ = some (.string (⟨#[]⟩:ByteArray)):=(blk_cell BK119.out 1).trans rfl;have hfz19_0:=blk_frozen BK119.out 0;have hfz19_1:=blk_frozen BK119.out 1))
  have n0_:Aside0 (((w17.setCell ⟨gb119,0,none⟩ (.int .i64 t116)).setCell ⟨gb119,1,none⟩ (.string t117)).heap[gb115]? = some (.cells #[.int .i64 0,.string (⟨#[]⟩:ByteArray)] 81 (0,0))):=⟨by (with_reducible repeat (first | refine blk_drewN ?_ _ | refine blk_drew ?_ | refine blk_alloc ?_ _));refine blk_far ?_ NB115_119.out _;(with_reducible repeat (first | refine blk_drewN ?_ _ | refine blk_drew ?_ | refine blk_alloc ?_ _));refine blk_far ?_ NB115_119.out _;(with_reducible repeat (first | refine blk_drewN ?_ _ | refine blk_drew ?_ | refine blk_alloc ?_ _));exact BK115.out⟩
  have n1_:Aside0 (((w17.setCell ⟨gb119,0,none⟩ (.int .i64 t116)).setCell ⟨gb119,1,none⟩ (.string t117)).heap[gb119]? = some (.cells #[.int .i64 t116,.string t117] 81 (0,0))):=⟨by (with_reducible repeat (first | refine blk_drewN ?_ _ | refine blk_drew ?_ | refine blk_alloc ?_ _));refine blk_put (cs:=#[.int .i64 t116,.string (⟨#[]⟩:ByteArray)]) ?_ 1 _ rfl;(with_reducible repeat (first | refine blk_drewN ?_ _ | refine blk_drew ?_ | refine blk_alloc ?_ _));refine blk_put (cs:=#[.int .i64 0,.string (⟨#[]⟩:ByteArray)]) ?_ 0 _ rfl;(with_reducible repeat (first | refine blk_drewN ?_ _ | refine blk_drew ?_ | refine blk_alloc ?_ _));exact BK119.out⟩
  have n2_:Aside0 (Below w.heap.size w ((w17.setCell ⟨gb119,0,none⟩ (.int .i64 t116)).setCell ⟨gb119,1,none⟩ (.string t117))):=⟨by repeat (first | (with_reducible first | exact HB.out | apply below_alloc | apply pw_below_drewN | apply below_drew1 | refine below_set ?_ GE115.out | refine below_set ?_ GE119.out) | exact HB.out)⟩
  (try clear BK115)
  (try clear BK119)
  (try clear HB)
  generalize ((w17.setCell ⟨gb119,0,none⟩ (.int .i64 t116)).setCell ⟨gb119,1,none⟩ (.string t117)) = w20 at n0_ n1_ n2_ ⊢
  have BK115:=n0_
  have BK119:=n1_
  have HB:=n2_
  clear n0_ n1_ n2_
  have n0_:=Aside0.mk (blk_drew BK115.out)
  have n1_:=Aside0.mk (blk_drew BK119.out)
  have n2_:=Aside0.mk (below_drew1 HB.out)
  clear BK115
  clear BK119
  clear HB
  have BK115:=n0_
  have BK119:=n1_
  have HB:=n2_
  clear n0_ n1_ n2_
  refine start_ (n:=9) (S:=fun w'=>w'.cell? ⟨gb119,0,none⟩ = some (.int .i64 t116) ∧ w'.cell? ⟨gb119,1,none⟩ = some (.string t117)) (ds:=[]) #[false,false,false,false,false,false,false,false,false] (by kernel_rfl) rfl rfl ⟨(blk_cell BK119.out 0).trans rfl,(blk_cell BK119.out 1).trans rfl⟩ (fun hHeld=>?_);refine with_tabW card_newTotal.tab2 card_newTotal.bits2 (fun HT_ HW_=>?_)
  generalize w20.drew = w21 at BK115 BK119 HB hHeld ⊢
  refine pure_ (i:=1) (N:=some 12) (v:=?_) (a':=?_) #[false,true,false,false,false,false,false,false,false] rfl rfl (any_of HT_.out (by kernel_rfl)) (fun _ _ _ h=>h) (Or.inl ⟨by rfl,?_⟩) ?_ ?_
  rotate_left
  ·intro w'
   go_simp
   with_reducible rfl
  rotate_left
  ·simp only [Act.put,List.setIfInBounds_toArray,List.set_cons_zero,List.set_cons_succ,i64_w,i32_w]
   rfl
  refine pure_ (i:=2) (N:=some 13) (v:=?_) (a':=?_) #[false,true,true,false,false,false,false,false,false] rfl rfl (any_of HT_.out (by kernel_rfl)) (fun _ _ _ h=>h) (Or.inl ⟨by rfl,?_⟩) ?_ ?_
  rotate_left
  ·intro w'
   go_simp
   with_reducible rfl
  rotate_left
  ·simp only [Act.put,List.setIfInBounds_toArray,List.set_cons_zero,List.set_cons_succ,i64_w,i32_w]
   rfl
  refine pure_ (i:=3) (N:=some 14) (v:=undef) (a':=?_) #[false,true,true,true,false,false,false,false,false] rfl rfl (any_of HT_.out (by kernel_rfl)) (fun _ _ _ h=>h) (Or.inr ⟨by rfl,rfl⟩) ?_ ?_
  rotate_left
  ·simp only [Act.put,List.setIfInBounds_toArray,List.set_cons_zero,List.set_cons_succ,i64_w,i32_w]
   rfl
  refine pure_ (i:=4) (N:=some 15) (v:=undef) (a':=?_) #[false,true,true,true,true,false,false,false,false] rfl rfl (any_of HT_.out (by kernel_rfl)) (fun _ _ _ h=>h) (Or.inr ⟨by rfl,rfl⟩) ?_ ?_
  rotate_left
  ·simp only [Act.put,List.setIfInBounds_toArray,List.set_cons_zero,List.set_cons_succ,i64_w,i32_w]
   rfl
  refine pure_ (i:=5) (N:=some 16) (v:=undef) (a':=?_) #[false,true,true,true,true,true,false,false,false] rfl rfl (any_of HT_.out (by kernel_rfl)) (fun _ _ _ h=>h) (Or.inr ⟨by rfl,rfl⟩) ?_ ?_
  rotate_left
  ·simp only [Act.put,List.setIfInBounds_toArray,List.set_cons_zero,List.set_cons_succ,i64_w,i32_w]
   rfl
  refine pure_ (i:=6) (N:=some 17) (v:=?_) (a':=?_) #[false,true,true,true,true,true,true,false,false] rfl rfl (any_of HT_.out (by kernel_rfl)) (fun _ _ _ h=>h) (Or.inl ⟨by rfl,?_⟩) ?_ ?_
  rotate_left
  ·intro w'
   go_simp
   with_reducible rfl
  rotate_left
  ·simp only [Act.put,List.setIfInBounds_toArray,List.set_cons_zero,List.set_cons_succ,i64_w,i32_w]
   rfl
  refine take_ (i:=0) (N:=some 11) (v:=?_) (a':=?_) #[true,true,true,true,true,true,true,false,false] rfl rfl (take_ofW HT_.out HW_.out (by kernel_rfl)) (fun _ _ _ h=>h) (Or.inl ⟨by rfl,?_⟩) hHeld ?_ ?_
  rotate_left
  ·rintro w' ⟨s0,s1⟩
   go_simp
   with_reducible rfl
  rotate_left
  ·simp only [Act.put,List.setIfInBounds_toArray,List.set_cons_zero,List.set_cons_succ,i64_w,i32_w]
   rfl
  refine one_ (i:=7) (N:=none) #[true,true,true,true,true,true,true,true,false] rfl rfl (one_of HT_.out (by kernel_rfl)) (by decide) (fun K hK=>?_)
  have hs22:w21.cell? ⟨gb115,0,none⟩ = some (.int .i64 0):=(blk_cell BK115.out 0).trans rfl
  have hfs22:=blk_frozen BK115.out 0
  have hns22_1:=NB119_115.out
  have hms22_1:=NB115_119.out
  have hs23:w21.cell? ⟨gb115,1,none⟩ = some (.string (⟨#[]⟩:ByteArray)):=(blk_cell BK115.out 1).trans rfl
  have hfs23:=blk_frozen BK115.out 1
  have hns23_1:=NB119_115.out
  have hms23_1:=NB115_119.out
  refine skip_ (w1:=?_) (by rfl) rfl ?_ ?_
  rotate_left
  ·go_simp
   rfl
  refine hK.out _ _ ⟨((cell_far (p:=⟨gb115,_,none⟩) NB119_115.out _).trans (((cell_far (p:=⟨gb115,_,none⟩) NB119_115.out _).trans (hHeld.1)))),((cell_far (p:=⟨gb115,_,none⟩) NB119_115.out _).trans (((cell_far (p:=⟨gb115,_,none⟩) NB119_115.out _).trans (hHeld.2))))⟩ (fun hHeld=>?_)
  clear hK K
  refine pure_ (i:=8) (N:=some 3) (v:=?_) (a':=?_) #[true,true,true,true,true,true,true,true,true] rfl rfl (any_of HT_.out (by kernel_rfl)) (fun _ _ _ h=>h) (Or.inl ⟨by rfl,?_⟩) ?_ ?_
  rotate_left
  ·intro w'
   go_simp
   with_reducible rfl
  rotate_left
  ·simp only [Act.put,List.setIfInBounds_toArray,List.set_cons_zero,List.set_cons_succ,i64_w,i32_w]
   rfl
  refine done_ (done_of HT_.out (by kernel_rfl)) ?_
  try go_wp2
  refine bodyPost_ret (results_ct rfl _ _ gb115 81 #[.int .i64 t116,.string t117] (0,0) _ rfl (by (with_reducible repeat (first | refine blk_drewN ?_ _ | refine blk_drew ?_ | refine blk_alloc ?_ _));refine blk_put (cs:=#[.int .i64 t116,.string (⟨#[]⟩:ByteArray)]) ?_ 1 _ rfl;(with_reducible repeat (first | refine blk_drewN ?_ _ | refine blk_drew ?_ | refine blk_alloc ?_ _));refine blk_put (cs:=#[.int .i64 0,.string (⟨#[]⟩:ByteArray)]) ?_ 0 _ rfl;(with_reducible repeat (first | refine blk_drewN ?_ _ | refine blk_drew ?_ | refine blk_alloc ?_ _));exact BK115.out) Try.underlying81 rfl (by kernel_rfl)) rfl ?_
  exact ⟨by first | rfl | (simp [errW_none,errW_some] <;> rfl) | (simp [*,errW_none,errW_some] <;> rfl),by repeat (first | (with_reducible first | exact HB.out | apply below_alloc | apply pw_below_drewN | apply below_drew1 | refine below_set ?_ GE115.out | refine below_set ?_ GE119.out) | exact HB.out)⟩
 subst c3
 have H1:((strings_Contains.f a0 (⟨#[45]⟩:ByteArray)).bind fun t120=>(some (t116,t117,!t120))) = some (r1,r2,r3):=by rw [if_pos rfl] at H;exact H
 clear H
 have H:=H1
 clear H1
 replace H:=Option.bind_eq_some_iff.mp H
 obtain ⟨t120,A40,H⟩:=H
 replace H:(some (t116,t117,!t120)) = some (r1,r2,r3):=H
 have A4:=Aside0.mk A40
 clear A40
 simp only [Option.some.injEq,Prod.mk.injEq] at H
 obtain ⟨rfl,rfl,rfl⟩:=H
 go_enter Try.func58,Try.ntmps58
 try go_wp2_with (first | ((with_reducible refine gate_dst (N:=2) rfl ?_);refine box_event ?hg (N:=2) ?hd (cs:=#[.int .i64 0,.string (⟨#[]⟩:ByteArray)]) (t:=81) ?hr ?_;(case hd=>rfl);(case hg=>rfl);(case hr=>first | (go_simp;done) | (go_simp;rfl));intro gb115 hg w5 hbox hb;have n0_:=Aside0.mk (below_step (by repeat (first | (with_reducible first | exact HB.out | apply below_alloc | apply pw_below_drewN | apply below_drew1) | exact HB.out)) hb);have n1_:=Aside0.mk (hbox);have n2_:=Aside0.mk ((by rw [hg];exact (below_size (by repeat (first | (with_reducible first | exact HB.out | apply below_alloc | apply pw_below_drewN | apply below_drew1) | exact HB.out))):w.heap.size ≤ gb115));have n3_:=Aside0.mk ((by rw [hg];exact (below_size (by repeat (first | (with_reducible first | exact HB.out | apply below_alloc | apply pw_below_drewN | apply below_drew1) | exact HB.out))):w.heap.size ≤ gb115));clear HB;have HB:=n0_;have BK115:=n1_;have GW115:=n2_;have GE115:=n3_;clear n0_ n1_ n2_ n3_;clear hb hbox hg) | ((with_reducible refine gate_callee (f:=65) rfl ?_);refine goesL_ (some 8) rfl rfl Try.func65 (by kernel_rfl) rfl #[.string a0] rfl (by (try simp only [List.map_toArray,List.map_cons,List.map_nil]);first | done | rfl | (simp only [List.length_drop,List.length_take];rfl)) ?_;(with_reducible refine (card_newFunction.calls a0 t116 t117 true _ A2.out).mono ?_);rintro e w6 ⟨rfl,hb⟩;refine ⟨_,rfl,?_⟩;have n0_:=Aside0.mk (blk_below (g:=gb115) (o:=.cells #[.int .i64 0,.string (⟨#[]⟩:ByteArray)] 81 (0,0)) (by (with_reducible repeat (first | refine blk_drewN ?_ _ | refine blk_drew ?_ | refine blk_alloc ?_ _));exact BK115.out) hb);have n1_:=Aside0.mk (below_step (by repeat (first | (with_reducible first | exact HB.out | apply below_alloc | apply pw_below_drewN | apply below_drew1 | refine below_set ?_ GE115.out) | exact HB.out)) hb);clear BK115;clear HB;have BK115:=n0_;have HB:=n1_;clear n0_ n1_;(try clear hb)) | ((with_reducible refine gate_dst (N:=4) rfl ?_);refine box_event ?hg (N:=4) ?hd (cs:=#[.int .i64 0,.string (⟨#[]⟩:ByteArray)]) (t:=81) ?hr ?_;(case hd=>rfl);(case hg=>rfl);(case hr=>first | (go_simp;done) | (go_simp;rfl));intro gb119 hg w7 hbox hb;have n0_:=Aside0.mk (blk_below (g:=gb115) (o:=.cells #[.int .i64 0,.string (⟨#[]⟩:ByteArray)] 81 (0,0)) (by (with_reducible repeat (first | refine blk_drewN ?_ _ | refine blk_drew ?_ | refine blk_alloc ?_ _));exact BK115.out) hb);have n1_:=Aside0.mk (below_step (by repeat (first | (with_reducible first | exact HB.out | apply below_alloc | apply pw_below_drewN | apply below_drew1 | refine below_set ?_ GE115.out) | exact HB.out)) hb);have n2_:=Aside0.mk (hbox);have n3_:=Aside0.mk ((by rw [hg];exact (below_size (by repeat (first | (with_reducible first | exact HB.out | apply below_alloc | apply pw_below_drewN | apply below_drew1 | refine below_set ?_ GE115.out) | exact HB.out))):w.heap.size ≤ gb119));have n4_:=Aside0.mk ((by rw [hg];exact (below_size (by repeat (first | (with_reducible first | exact HB.out | apply below_alloc | apply pw_below_drewN | apply below_drew1 | refine below_set ?_ GE115.out) | exact HB.out))):w.heap.size ≤ gb119));have n5_:=Aside0.mk ((by rw [hg];exact Nat.ne_of_lt (blk_lt (g:=gb115) (o:=.cells #[.int .i64 0,.string (⟨#[]⟩:ByteArray)] 81 (0,0)) (by (with_reducible repeat (first | refine blk_drewN ?_ _ | refine blk_drew ?_ | refine blk_alloc ?_ _));exact BK115.out)):gb115 ≠ gb119));have n6_:=Aside0.mk ((by rw [hg];exact Nat.ne_of_gt (blk_lt (g:=gb115) (o:=.cells #[.int .i64 0,.string (⟨#[]⟩:ByteArray)] 81 (0,0)) (by (with_reducible repeat (first | refine blk_drewN ?_ _ | refine blk_drew ?_ | refine blk_alloc ?_ _));exact BK115.out)):gb119 ≠ gb115));clear BK115;clear HB;have BK115:=n0_;have HB:=n1_;have BK119:=n2_;have GW119:=n3_;have GE119:=n4_;have NB115_119:=n5_;have NB119_115:=n6_;clear n0_ n1_ n2_ n3_ n4_ n5_ n6_;clear hb hbox hg;have hnb8:=NB119_115.out;have hnc8:=NB115_119.out;have hcz9_0:w7.cell? ⟨gb119,0,none⟩ = some (.int .i64 0):=(blk_cell BK119.out 0).trans rfl;have hcz9_1:w7.cell? ⟨gb119,1,none⟩ = some (.string (⟨#[]⟩:ByteArray)):=(blk_cell BK119.out 1).trans rfl;have hfz9_0:=blk_frozen BK119.out 0;have hfz9_1:=blk_frozen BK119.out 1))
 have n0_:Aside0 (((w7.setCell ⟨gb119,0,none⟩ (.int .i64 t116)).setCell ⟨gb119,1,none⟩ (.string t117)).heap[gb115]? = some (.cells #[.int .i64 0,.string (⟨#[]⟩:ByteArray)] 81 (0,0))):=⟨by (with_reducible repeat (first | refine blk_drewN ?_ _ | refine blk_drew ?_ | refine blk_alloc ?_ _));refine blk_far ?_ NB115_119.out _;(with_reducible repeat (first | refine blk_drewN ?_ _ | refine blk_drew ?_ | refine blk_alloc ?_ _));refine blk_far ?_ NB115_119.out _;(with_reducible repeat (first | refine blk_drewN ?_ _ | refine blk_drew ?_ | refine blk_alloc ?_ _));exact BK115.out⟩
 have n1_:Aside0 (((w7.setCell ⟨gb119,0,none⟩ (.int .i64 t116)).setCell ⟨gb119,1,none⟩ (.string t117)).heap[gb119]? = some (.cells #[.int .i64 t116,.string t117] 81 (0,0))):=⟨by (with_reducible repeat (first | refine blk_drewN ?_ _ | refine blk_drew ?_ | refine blk_alloc ?_ _));refine blk_put (cs:=#[.int .i64 t116,.string (⟨#[]⟩:ByteArray)]) ?_ 1 _ rfl;(with_reducible repeat (first | refine blk_drewN ?_ _ | refine blk_drew ?_ | refine blk_alloc ?_ _));refine blk_put (cs:=#[.int .i64 0,.string (⟨#[]⟩:ByteArray)]) ?_ 0 _ rfl;(with_reducible repeat (first | refine blk_drewN ?_ _ | refine blk_drew ?_ | refine blk_alloc ?_ _));exact BK119.out⟩
 have n2_:Aside0 (Below w.heap.size w ((w7.setCell ⟨gb119,0,none⟩ (.int .i64 t116)).setCell ⟨gb119,1,none⟩ (.string t117))):=⟨by repeat (first | (with_reducible first | exact HB.out | apply below_alloc | apply pw_below_drewN | apply below_drew1 | refine below_set ?_ GE115.out | refine below_set ?_ GE119.out) | exact HB.out)⟩
 (try clear BK115)
 (try clear BK119)
 (try clear HB)
 generalize ((w7.setCell ⟨gb119,0,none⟩ (.int .i64 t116)).setCell ⟨gb119,1,none⟩ (.string t117)) = w10 at n0_ n1_ n2_ ⊢
 have BK115:=n0_
 have BK119:=n1_
 have HB:=n2_
 clear n0_ n1_ n2_
 have n0_:=Aside0.mk (blk_drew BK115.out)
 have n1_:=Aside0.mk (blk_drew BK119.out)
 have n2_:=Aside0.mk (below_drew1 HB.out)
 clear BK115
 clear BK119
 clear HB
 have BK115:=n0_
 have BK119:=n1_
 have HB:=n2_
 clear n0_ n1_ n2_
 refine start_ (n:=9) (S:=fun w'=>w'.cell? ⟨gb119,0,none⟩ = some (.int .i64 t116) ∧ w'.cell? ⟨gb119,1,none⟩ = some (.string t117)) (ds:=[]) #[false,false,false,false,false,false,false,false,false] (by kernel_rfl) rfl rfl ⟨(blk_cell BK119.out 0).trans rfl,(blk_cell BK119.out 1).trans rfl⟩ (fun hHeld=>?_);refine with_tabW card_newTotal.tab2 card_newTotal.bits2 (fun HT_ HW_=>?_)
 generalize w10.drew = w11 at BK115 BK119 HB hHeld ⊢
 refine pure_ (i:=1) (N:=some 12) (v:=?_) (a':=?_) #[false,true,false,false,false,false,false,false,false] rfl rfl (any_of HT_.out (by kernel_rfl)) (fun _ _ _ h=>h) (Or.inl ⟨by rfl,?_⟩) ?_ ?_
 rotate_left
 ·intro w'
  go_simp
  with_reducible rfl
 rotate_left
 ·simp only [Act.put,List.setIfInBounds_toArray,List.set_cons_zero,List.set_cons_succ,i64_w,i32_w]
  rfl
 refine pure_ (i:=2) (N:=some 13) (v:=?_) (a':=?_) #[false,true,true,false,false,false,false,false,false] rfl rfl (any_of HT_.out (by kernel_rfl)) (fun _ _ _ h=>h) (Or.inl ⟨by rfl,?_⟩) ?_ ?_
 rotate_left
 ·intro w'
  go_simp
  with_reducible rfl
 rotate_left
 ·simp only [Act.put,List.setIfInBounds_toArray,List.set_cons_zero,List.set_cons_succ,i64_w,i32_w]
  rfl
 refine pure_ (i:=3) (N:=some 14) (v:=?_) (a':=?_) #[false,true,true,true,false,false,false,false,false] rfl rfl (any_of HT_.out (by kernel_rfl)) (fun _ _ _ h=>h) (Or.inl ⟨by rfl,?_⟩) ?_ ?_
 rotate_left
 ·intro w'
  go_simp
  with_reducible rfl
 rotate_left
 ·simp only [Act.put,List.setIfInBounds_toArray,List.set_cons_zero,List.set_cons_succ,i64_w,i32_w]
  rfl
 refine take_ (i:=0) (N:=some 11) (v:=?_) (a':=?_) #[true,true,true,true,false,false,false,false,false] rfl rfl (take_ofW HT_.out HW_.out (by kernel_rfl)) (fun _ _ _ h=>h) (Or.inl ⟨by rfl,?_⟩) hHeld ?_ ?_
 rotate_left
 ·rintro w' ⟨s0,s1⟩
  go_simp
  with_reducible rfl
 rotate_left
 ·simp only [Act.put,List.setIfInBounds_toArray,List.set_cons_zero,List.set_cons_succ,i64_w,i32_w]
  rfl
 refine one_ (i:=4) (N:=some 15) #[true,true,true,true,true,false,false,false,false] rfl rfl (one_of HT_.out (by kernel_rfl)) (by decide) (fun K hK=>?_)
 refine goes_ Try.func92 (by kernel_rfl) rfl #[.string a0,.string (⟨#[45]⟩:ByteArray)] (by rfl) rfl rfl (by (try simp only [List.map_toArray,List.map_cons,List.map_nil]);first | done | rfl | (simp only [List.length_drop,List.length_take];rfl)) ?_
 with_reducible refine (strings_Contains.calls a0 (⟨#[45]⟩:ByteArray) t120 _ A4.out).mono ?_
 rintro e w12 ⟨rfl,hb⟩
 refine ⟨_,rfl,?_⟩
 have n0_:=Aside0.mk (blk_below (g:=gb115) (o:=.cells #[.int .i64 0,.string (⟨#[]⟩:ByteArray)] 81 (0,0)) (by (with_reducible repeat (first | refine blk_drewN ?_ _ | refine blk_drew ?_ | refine blk_alloc ?_ _));exact BK115.out) hb)
 have n1_:=Aside0.mk (blk_below (g:=gb119) (o:=.cells #[.int .i64 t116,.string t117] 81 (0,0)) (by (with_reducible repeat (first | refine blk_drewN ?_ _ | refine blk_drew ?_ | refine blk_alloc ?_ _));exact BK119.out) hb)
 have n2_:=Aside0.mk (below_step (by repeat (first | (with_reducible first | exact HB.out | apply below_alloc | apply pw_below_drewN | apply below_drew1 | refine below_set ?_ GE115.out | refine below_set ?_ GE119.out) | exact HB.out)) hb)
 clear BK115
 clear BK119
 clear HB
 have BK115:=n0_
 have BK119:=n1_
 have HB:=n2_
 clear n0_ n1_ n2_
 (try clear hb)
 refine hK.out _ _ ⟨(blk_cell BK119.out 0).trans rfl,(blk_cell BK119.out 1).trans rfl⟩ (fun hHeld=>?_)
 clear hK K
 refine norm_ (a':=?_) ?_ ?_
 rotate_left
 ·show Act.put _ (some 15) _ = _
  simp only [Act.put,List.setIfInBounds_toArray,List.set_cons_zero,List.set_cons_succ,i64_w,i32_w]
  rfl
 refine pure_ (i:=5) (N:=some 16) (v:=?_) (a':=?_) #[true,true,true,true,true,true,false,false,false] rfl rfl (any_of HT_.out (by kernel_rfl)) (fun _ _ _ h=>h) (Or.inl ⟨by rfl,?_⟩) ?_ ?_
 rotate_left
 ·intro w'
  go_simp
  with_reducible rfl
 rotate_left
 ·simp only [Act.put,List.setIfInBounds_toArray,List.set_cons_zero,List.set_cons_succ,i64_w,i32_w]
  rfl
 refine pure_ (i:=6) (N:=some 17) (v:=?_) (a':=?_) #[true,true,true,true,true,true,true,false,false] rfl rfl (any_of HT_.out (by kernel_rfl)) (fun _ _ _ h=>h) (Or.inl ⟨by rfl,?_⟩) ?_ ?_
 rotate_left
 ·intro w'
  go_simp
  with_reducible rfl
 rotate_left
 ·simp only [Act.put,List.setIfInBounds_toArray,List.set_cons_zero,List.set_cons_succ,i64_w,i32_w]
  rfl
 refine one_ (i:=7) (N:=none) #[true,true,true,true,true,true,true,true,false] rfl rfl (one_of HT_.out (by kernel_rfl)) (by decide) (fun K hK=>?_)
 have hs13:w12.cell? ⟨gb115,0,none⟩ = some (.int .i64 0):=(blk_cell BK115.out 0).trans rfl
 have hfs13:=blk_frozen BK115.out 0
 have hns13_1:=NB119_115.out
 have hms13_1:=NB115_119.out
 have hs14:w12.cell? ⟨gb115,1,none⟩ = some (.string (⟨#[]⟩:ByteArray)):=(blk_cell BK115.out 1).trans rfl
 have hfs14:=blk_frozen BK115.out 1
 have hns14_1:=NB119_115.out
 have hms14_1:=NB115_119.out
 refine skip_ (w1:=?_) (by rfl) rfl ?_ ?_
 rotate_left
 ·go_simp
  rfl
 refine hK.out _ _ ⟨((cell_far (p:=⟨gb115,_,none⟩) NB119_115.out _).trans (((cell_far (p:=⟨gb115,_,none⟩) NB119_115.out _).trans (hHeld.1)))),((cell_far (p:=⟨gb115,_,none⟩) NB119_115.out _).trans (((cell_far (p:=⟨gb115,_,none⟩) NB119_115.out _).trans (hHeld.2))))⟩ (fun hHeld=>?_)
 clear hK K
 refine pure_ (i:=8) (N:=some 3) (v:=?_) (a':=?_) #[true,true,true,true,true,true,true,true,true] rfl rfl (any_of HT_.out (by kernel_rfl)) (fun _ _ _ h=>h) (Or.inl ⟨by rfl,?_⟩) ?_ ?_
 rotate_left
 ·intro w'
  go_simp
  with_reducible rfl
 rotate_left
 ·simp only [Act.put,List.setIfInBounds_toArray,List.set_cons_zero,List.set_cons_succ,i64_w,i32_w]
  rfl
 refine done_ (done_of HT_.out (by kernel_rfl)) ?_
 try go_wp2
 refine bodyPost_ret (results_ct rfl _ _ gb115 81 #[.int .i64 t116,.string t117] (0,0) _ rfl (by (with_reducible repeat (first | refine blk_drewN ?_ _ | refine blk_drew ?_ | refine blk_alloc ?_ _));refine blk_put (cs:=#[.int .i64 t116,.string (⟨#[]⟩:ByteArray)]) ?_ 1 _ rfl;(with_reducible repeat (first | refine blk_drewN ?_ _ | refine blk_drew ?_ | refine blk_alloc ?_ _));refine blk_put (cs:=#[.int .i64 0,.string (⟨#[]⟩:ByteArray)]) ?_ 0 _ rfl;(with_reducible repeat (first | refine blk_drewN ?_ _ | refine blk_drew ?_ | refine blk_alloc ?_ _));exact BK115.out) Try.underlying81 rfl (by kernel_rfl)) rfl ?_
 exact ⟨by first | rfl | (simp [errW_none,errW_some] <;> rfl) | (simp [*,errW_none,errW_some] <;> rfl),by repeat (first | (with_reducible first | exact HB.out | apply below_alloc | apply pw_below_drewN | apply below_drew1 | refine below_set ?_ GE115.out | refine below_set ?_ GE119.out) | exact HB.out)⟩
end Go.Proofs.Ythpahlkhiknofaa.G
set_option linter.unusedSectionVars false
namespace Go.Proofs.Ythpahlkhiknofaa.P
open Go Go.RowKit Go.Proofs.Ythpahlkhiknofaa.M Go.Proofs.Ythpahlkhiknofaa.G
open Go.Proofs.YthpahlkhiknofaaW.PrintWords Go.Proofs.YthpahlkhiknofaaW.PrintMore
/-- What is known of a total function. -/
structure Tot (c:ByteArray) (n:Nat):Prop where
  n1:1 ≤ n
  n5:n ≤ 5
  size:c.size = 2 ^ n
  le:c.size ≤ 32
  val:∀ p,p < c.size → bt c (p:Int) = 48 ∨ bt c (p:Int) = 49
end Go.Proofs.Ythpahlkhiknofaa.P
namespace Go.Proofs.Ythpahlkhiknofaa.H
open Go Go.RowKit Go.Shelf Go.Proofs.Ythpahlkhiknofaa.G Go.Proofs.YthpahlkhiknofaaW.PrintWords
def fitL {α:Type} (l:List α):Prop:=l.length ≤ 9223372036854775807
instance {α:Type} (l:List α):Decidable (fitL l):=by unfold fitL;exact inferInstance
theorem wide_fn (f:FuncId):Fence.wide.fn f = True:=rfl
attribute [local go_sem] Oper.semAt_some wide_fn
theorem within_val (a lo hi:Int) (w:World):Calls Try.prog 61 #[.int .i64 a,.int .i64 lo,.int .i64 hi] w fun e w'=>e = .returned (.bool (decide (lo ≤ a ∧ a ≤ hi))) ∧ Drawn0 w w':=by
 refine card_within.calls a lo hi _ w ?_
 unfold card_within.f
 by_cases h:a ≥ lo
 case neg =>
  rw [if_neg h]
  congr 1
  rw [eq_comm,decide_eq_false_iff_not]
  exact fun k=>h k.1
 rw [if_pos h]
 congr 1
 rw [Bool.eq_iff_iff,decide_eq_true_iff,decide_eq_true_iff]
 exact ⟨fun k=>⟨h,k⟩,fun k=>k.2⟩
set_option maxHeartbeats 1000000 in
theorem c60_any (x:Int) (w:World):Calls Try.prog 60 #[.int .i64 x] w fun e w'=>e = .returned (.bool (!decide (-1000000 ≤ x ∧ x ≤ 1000000))) ∧ Below w.heap.size w w':=by
 refine (callsIn_wide (n:=9)).1 ?_
 refine callsIn_of_wp Try.func60 rfl trivial ?_
 simp only [Try.ntmps60,List.size_toArray,List.length_cons,List.length_nil,Nat.reduceAdd,Nat.reduceSub,Array.replicate_succ,Array.replicate_zero,List.push_toArray,List.append_toArray,List.nil_append,List.cons_append]
 gi_wp2_with fail
 refine (callsIn_wide.2 (within_val x (-1000000) 1000000 w)).mono ?_
 rintro e w1 ⟨rfl,hd⟩
 have HB:=Lib.hid hd.below
 clear hd
 gi_wp2_with fail
 exact bodyPost_ret (v:=.bool (!decide (-1000000 ≤ x) || !decide (x ≤ 1000000))) (results_tmp (t:=2) rfl _ _ _) rfl ⟨by rw [Bool.decide_and,Bool.not_and],HB.out⟩
set_option maxHeartbeats 4000000 in
set_option maxRecDepth 100000 in
theorem index60 (A:Option Addr) (c:Nat) (l:List Int) (w:World) (hl:Kd.C (Kd.int .i64) w A l.length l) (hlen:fitL l) :
  Calls Try.prog 93 #[.slice A l.length c,.func (.func 60) #[] #[]] w fun e w'=>∃ i:Int,e = .returned (.int .i64 i) ∧ decide (0 ≤ i) = l.any (fun x=>!decide (-1000000 ≤ x ∧ x ≤ 1000000)) ∧ Below w.heap.size w w':=by
 refine (callsIn_wide (n:=9)).1 ?_
 refine callsIn_of_wp Try.func93 rfl trivial ?_
 simp only [Try.ntmps93,List.size_toArray,List.length_cons,List.length_nil,Nat.reduceAdd,Nat.reduceSub,Array.replicate_succ,Array.replicate_zero,List.push_toArray,List.append_toArray,List.nil_append,List.cons_append]
 unfold fitL at hlen
 have HL:=Lib.hid hl
 clear hl
 gi_wp2_with fail
 gi_loopg [8] l.length (fun k s8 W=>∃ i:Nat,s8 = .int .i64 (i:Int) ∧ i ≤ l.length ∧ l.length ≤ k + i ∧ Below w.heap.size w W ∧ (l.take i).any (fun x=>!decide (-1000000 ≤ x ∧ x ≤ 1000000)) = false)
 case atStart=>exact ⟨0,rfl,by omega,by omega,Below.refl _ _,rfl⟩
 case round =>
  obtain ⟨i,rfl,hi,hk,hB,hany⟩:=hrel
  have HB:=Lib.hid hB
  have HA:=Lib.hid hany
  clear hB hany
  by_cases hil:i < l.length
  case neg =>
   have:i = l.length:=by omega
   subst this
   gi_wp2_with fail
   refine bodyPost_ret (v:=.int .i64 (-1)) (results_tmp (t:=4) rfl _ _ _) rfl ⟨-1,rfl,?_,HB.out⟩
   have:=HA.out
   rw [List.take_length] at this
   rw [this];simp
  have hI0:(0:Int) ≤ (i:Int):=by omega
  have hI1:(i:Int) < (l.length:Int):=by omega
  obtain ⟨ad,e0,hx⟩:=Kd.at_int HL.out (i:Int) hI0 hI1
  cases e0
  rw [Int.toNat_natCast] at hx
  have hcell:=(HB.out.cell (World.block_lt_of_cell? w _ hx)).trans hx
  obtain ⟨x,hxe⟩:∃ x,rd l (i:Int) = x:=⟨_,rfl⟩
  rw [hxe] at hcell
  have hxi:l[i] = x:=by rw [← hxe];unfold rd;simp [hil]
  have HXE:=Lib.hid hxi
  clear hx hxe hxi
  gi_wp2_with fail
  refine (callsIn_wide.2 (c60_any x _)).mono ?_
  rintro e w1 ⟨rfl,hb1⟩
  have HB1:=Lib.hid hb1
  have hs:=HB.out.size
  obtain ⟨q,hq⟩:∃ q,(!decide (-1000000 ≤ x ∧ x ≤ 1000000)) = q:=⟨_,rfl⟩
  rw [hq]
  have HQ:=Lib.hid hq
  clear hb1 hq
  cases q with
  | true =>
   gi_wp2_with fail
   refine bodyPost_ret (v:=.int .i64 (i:Int)) (results_tmp (t:=4) rfl _ _ _) rfl ⟨i,rfl,?_,HB.out.trans (HB1.out.mono hs)⟩
   have:l.any (fun x=>!decide (-1000000 ≤ x ∧ x ≤ 1000000)) = true:=List.any_eq_true.2 ⟨x,by rw [← HXE.out];exact List.getElem_mem hil,HQ.out⟩
   rw [this];simp
  | false =>
   gi_wp2_with fail
   gi_roundg (l.length - (i + 1))
   case measure=>omega
   case rel =>
    refine ⟨i + 1,by simp,by omega,by omega,HB.out.trans (HB1.out.mono hs),?_⟩
    rw [List.take_succ_eq_append_getElem hil,List.any_append,HA.out,HXE.out]
    simp only [List.any_cons,List.any_nil,Bool.or_false,Bool.false_or]
    exact HQ.out
set_option maxHeartbeats 4000000 in
theorem contains60 (A:Option Addr) (c:Nat) (l:List Int) (w:World) (hl:Kd.C (Kd.int .i64) w A l.length l) (hlen:fitL l) :
  Calls Try.prog 59 #[.slice A l.length c,.func (.func 60) #[] #[]] w fun e w'=>e = .returned (.bool (l.any (fun x=>!decide (-1000000 ≤ x ∧ x ≤ 1000000)))) ∧ Below w.heap.size w w':=by
 refine (callsIn_wide (n:=9)).1 ?_
 refine callsIn_of_wp Try.func59 rfl trivial ?_
 simp only [Try.ntmps59,List.size_toArray,List.length_cons,List.length_nil,Nat.reduceAdd,Nat.reduceSub,Array.replicate_succ,Array.replicate_zero,List.push_toArray,List.append_toArray,List.nil_append,List.cons_append]
 have HI:=Lib.hid (index60 A c l w hl hlen)
 clear hl
 gi_wp2_with fail
 refine (callsIn_wide.2 HI.out).mono ?_
 rintro e w1 ⟨i,rfl,hd,hb1⟩
 have HD:=Lib.hid hd
 have HB1:=Lib.hid hb1
 clear hd hb1
 gi_wp2_with fail
 refine bodyPost_ret (v:=.bool (decide (0 ≤ i))) (results_tmp (t:=4) rfl _ _ _) rfl ⟨by rw [HD.out],HB1.out⟩
end Go.Proofs.Ythpahlkhiknofaa.H
namespace Go.Proofs.Ythpahlkhiknofaa.G
open Go Go.RowKit Go.Proofs.YthpahlkhiknofaaW.PrintWords
def contains60.f (l0:List Int):Option ((Bool)):=if H.fitL l0 then some (l0.any (fun x=>!decide (-1000000 ≤ x ∧ x ≤ 1000000))) else none
theorem contains60.calls (A0:Option Addr) (c0:Nat) (l0:List Int) (r:Bool) (w:World) (hr0:Kd.C (Kd.int .i64) w A0 l0.length l0) (_:l0.length ≤ c0) (h:contains60.f l0 = some r) :
  Calls Try.prog 59 #[.slice A0 l0.length c0,.func (.func 60) #[] #[]] w fun e w'=>e = .returned (.bool r) ∧ Below w.heap.size w w':=by
 unfold contains60.f at h
 by_cases hf:H.fitL l0
 case neg =>
  rw [if_neg hf] at h
  cases h
 rw [if_pos hf] at h
 obtain rfl:=Option.some.inj h
 exact H.contains60 A0 c0 l0 w hr0 hf
end Go.Proofs.Ythpahlkhiknofaa.G
namespace Go.Proofs.Ythpahlkhiknofaa.H
open Go Go.RowKit Go.Shelf Go.Proofs.Ythpahlkhiknofaa.G Go.Proofs.Ythpahlkhiknofaa.P Go.Proofs.YthpahlkhiknofaaW.PrintWords
/-- What the function says of each cube,in each world that has grown from one. -/
def Says (F:Nat) (b:Addr) (w:World) (φ:S96 → Bool):Prop:=∀ W x,Below w.heap.size w W → Calls Try.prog F #[.agg #[.int .i64 x.f0,.int .i64 x.f1],.pointer (some b)] W fun e W'=>e = .returned (.bool (φ x)) ∧ Below W.heap.size W W'
def FirstI (φ:S96 → Bool) (l:List S96) (i:Int):Prop:=∃ j:Nat,i = (j:Int) ∧ ∃ h:j < l.length,φ l[j] = true ∧ (l.take j).any φ = false
theorem Says.mono {F:Nat} {b:Addr} {w w1:World} {φ:S96 → Bool} (h:Says F b w φ) (hb:Below w.heap.size w w1):Says F b w1 φ:=fun W x hW=>h W x (hb.trans (hW.mono hb.size))
end Go.Proofs.Ythpahlkhiknofaa.H
namespace Go.Proofs.Ythpahlkhiknofaa.H
open Go Go.RowKit Go.Shelf Go.Proofs.Ythpahlkhiknofaa.G Go.Proofs.Ythpahlkhiknofaa.P Go.Proofs.YthpahlkhiknofaaW.PrintWords
attribute [local go_sem] Oper.semAt_some wide_fn
set_option maxHeartbeats 4000000 in
set_option maxRecDepth 100000 in
theorem index114_108 (b:Addr) (φ:S96 → Bool) (A:Option Addr) (c:Nat) (l:List S96) (w:World) (hS:Says 108 b w φ) (hl:Kd.C k96 w A l.length l) (hlen:fitL l) :
  Calls Try.prog 114 #[.slice A l.length c,.func (.func 108) #[] #[.pointer (some b)]] w fun e w'=>∃ i:Int,e = .returned (.int .i64 i) ∧ decide (0 ≤ i) = l.any φ ∧ (0 ≤ i → FirstI φ l i) ∧ (i < 0 → i = -1) ∧ Below w.heap.size w w':=by
 refine (callsIn_wide (n:=9)).1 ?_
 refine callsIn_of_wp Try.func114 rfl trivial ?_
 simp only [Try.ntmps114,List.size_toArray,List.length_cons,List.length_nil,Nat.reduceAdd,Nat.reduceSub,Array.replicate_succ,Array.replicate_zero,List.push_toArray,List.append_toArray,List.nil_append,List.cons_append]
 unfold fitL at hlen
 have HL:=Lib.hid hl
 have HS:=Lib.hid hS
 clear hl hS
 gi_wp2_with fail
 gi_loopg [8] l.length (fun k s8 W=>∃ i:Nat,s8 = .int .i64 (i:Int) ∧ i ≤ l.length ∧ l.length ≤ k + i ∧ Below w.heap.size w W ∧ (l.take i).any φ = false)
 case atStart=>exact ⟨0,rfl,by omega,by omega,Below.refl _ _,rfl⟩
 case round =>
  obtain ⟨i,rfl,hi,hk,hB,hany⟩:=hrel
  have HB:=Lib.hid hB
  have HA:=Lib.hid hany
  clear hB hany
  by_cases hil:i < l.length
  case neg =>
   have:i = l.length:=by omega
   subst this
   gi_wp2_with fail
   refine bodyPost_ret (v:=.int .i64 (-1)) (results_tmp (t:=4) rfl _ _ _) rfl ⟨-1,rfl,?_,fun h=>by omega,fun _=>rfl,HB.out⟩
   have:=HA.out
   rw [List.take_length] at this
   rw [this];simp
  have hI0:(0:Int) ≤ (i:Int):=by omega
  have hI1:(i:Int) < (l.length:Int):=by omega
  obtain ⟨ad,e0,hx0,hx1⟩:=at_T96 HL.out (i:Int) hI0 hI1
  cases e0
  rw [Int.toNat_natCast] at hx0 hx1
  have hc0:=(HB.out.cell (World.block_lt_of_cell? w _ hx0)).trans hx0
  have hc1:=(HB.out.cell (World.block_lt_of_cell? w _ hx1)).trans hx1
  obtain ⟨x,hxe⟩:∃ x,rd_T96 l (i:Int) = x:=⟨_,rfl⟩
  rw [hxe] at hc0 hc1
  have hxi:l[i] = x:=by rw [← hxe];unfold rd_T96;simp [hil]
  have HXE:=Lib.hid hxi
  clear hx0 hx1 hxe hxi
  gi_wp2_with fail
  refine (callsIn_wide.2 (HS.out _ x HB.out)).mono ?_
  rintro e w1 ⟨rfl,hb1⟩
  have HB1:=Lib.hid hb1
  have hs:=HB.out.size
  obtain ⟨q,hq⟩:∃ q,φ x = q:=⟨_,rfl⟩
  rw [hq]
  have HQ:=Lib.hid hq
  clear hb1 hq
  cases q with
  | true =>
   gi_wp2_with fail
   refine bodyPost_ret (v:=.int .i64 (i:Int)) (results_tmp (t:=4) rfl _ _ _) rfl ⟨i,rfl,?_,fun _=>⟨i,rfl,hil,?_,HA.out⟩,fun h=>by omega,HB.out.trans (HB1.out.mono hs)⟩
   ·have:l.any φ = true:=List.any_eq_true.2 ⟨x,by rw [← HXE.out];exact List.getElem_mem hil,HQ.out⟩
    rw [this];simp
   rw [HXE.out];exact HQ.out
  | false =>
   gi_wp2_with fail
   gi_roundg (l.length - (i + 1))
   case measure=>omega
   case rel =>
    refine ⟨i + 1,by simp,by omega,by omega,HB.out.trans (HB1.out.mono hs),?_⟩
    rw [List.take_succ_eq_append_getElem hil,List.any_append,HA.out,HXE.out]
    simp only [List.any_cons,List.any_nil,Bool.or_false,Bool.false_or]
    exact HQ.out
set_option maxHeartbeats 4000000 in
theorem contains107_108 (b:Addr) (φ:S96 → Bool) (A:Option Addr) (c:Nat) (l:List S96) (w:World) (hS:Says 108 b w φ) (hl:Kd.C k96 w A l.length l) (hlen:fitL l) :
  Calls Try.prog 107 #[.slice A l.length c,.func (.func 108) #[] #[.pointer (some b)]] w fun e w'=>e = .returned (.bool (l.any φ)) ∧ Below w.heap.size w w':=by
 refine (callsIn_wide (n:=9)).1 ?_
 refine callsIn_of_wp Try.func107 rfl trivial ?_
 simp only [Try.ntmps107,List.size_toArray,List.length_cons,List.length_nil,Nat.reduceAdd,Nat.reduceSub,Array.replicate_succ,Array.replicate_zero,List.push_toArray,List.append_toArray,List.nil_append,List.cons_append]
 have HI:=Lib.hid (index114_108 b φ A c l w hS hl hlen)
 clear hl hS
 gi_wp2_with fail
 refine (callsIn_wide.2 HI.out).mono ?_
 rintro e w1 ⟨i,rfl,hd,_,_,hb1⟩
 have HD:=Lib.hid hd
 have HB1:=Lib.hid hb1
 clear hd hb1
 gi_wp2_with fail
 refine bodyPost_ret (v:=.bool (decide (0 ≤ i))) (results_tmp (t:=4) rfl _ _ _) rfl ⟨by rw [HD.out],HB1.out⟩
end Go.Proofs.Ythpahlkhiknofaa.H
namespace Go.Proofs.Ythpahlkhiknofaa.H
open Go Go.RowKit Go.Shelf Go.Proofs.Ythpahlkhiknofaa.G Go.Proofs.Ythpahlkhiknofaa.P Go.Proofs.YthpahlkhiknofaaW.PrintWords
attribute [local go_sem] Oper.semAt_some wide_fn
def hasB (x:S96) (p:Int):Bool:=Go.bits .and .i64 p x.f0 == x.f1
set_option maxHeartbeats 2000000 in
theorem says108 (b:Addr) (w:World) (p:Int) (hb:w.cell? b = some (.int .i64 p)):Says 108 b w (fun x=>hasB x p):=by
 intro W x hB
 have hc:=(hB.cell (World.block_lt_of_cell? w _ hb)).trans hb
 refine (callsIn_wide (n:=9)).1 ?_
 refine callsIn_of_wp Try.func108 rfl trivial ?_
 simp only [Try.ntmps108,List.size_toArray,List.length_cons,List.length_nil,Nat.reduceAdd,Nat.reduceSub,Array.replicate_succ,Array.replicate_zero,List.push_toArray,List.append_toArray,List.nil_append,List.cons_append]
 have hb2:=World.block_lt_of_cell? W _ hc
 have HB:=Lib.hid hB
 clear hB
 have hc':=(((Below.refl W.heap.size W).alloc (Nat.le_refl _) (Obj.cells #[Value.int IntKind.i64 x.f0,Value.int IntKind.i64 x.f1] 96)).cell hb2).trans hc
 gi_wp2_with fail
 refine (callsIn_wide.2 (card_cube_has.calls x.f0 x.f1 p (hasB x p) _ rfl)).mono ?_
 rintro e w1 ⟨rfl,hb1⟩
 have HB1:=Lib.hid hb1
 clear hb1
 gi_wp2_with fail
 exact bodyPost_ret (v:=.bool (hasB x p)) (results_tmp (t:=3) rfl _ _ _) rfl ⟨rfl,((Below.refl _ _).alloc (Nat.le_refl _) _).trans (HB1.out.mono (by rw [World.size_alloc];omega))⟩
def badP (s:ByteArray) (l:List S96) (p:Nat):Bool:=(l.any (fun x=>hasB x (p:Int)) && (bt s (p:Int) == 48)) || (!l.any (fun x=>hasB x (p:Int)) && (bt s (p:Int) == 49))
def covB (s:ByteArray) (l:List S96):Bool:=allF (fun p=>!badP s l p) s.size 0
set_option maxHeartbeats 4000000 in
set_option maxRecDepth 100000 in
theorem isCover78 (n:Int) (s:ByteArray) (A:Option Addr) (c:Nat) (l:List S96) (w:World) (hl:Kd.C k96 w A l.length l) (hlen:fitL l) (hsz:s.size ≤ 1000) :
  Calls Try.prog 78 #[.agg #[.int .i64 n,.string s],.slice A l.length c] w fun e w'=>e = .returned (.bool (covB s l)) ∧ Below w.heap.size w w':=by
 refine (callsIn_wide (n:=9)).1 ?_
 refine callsIn_of_wp Try.func78 rfl trivial ?_
 simp only [Try.ntmps78,List.size_toArray,List.length_cons,List.length_nil,Nat.reduceAdd,Nat.reduceSub,Array.replicate_succ,Array.replicate_zero,List.push_toArray,List.append_toArray,List.nil_append,List.cons_append]
 have HL:=Lib.hid hl
 clear hl
 gi_wp2_with fail
 gi_loopg [10] s.size (fun k s10 W=>∃ p:Nat,s10 = .int .i64 (p:Int) ∧ p ≤ s.size ∧ s.size ≤ k + p ∧ Below w.heap.size w W ∧ W.cell? { block:=w.heap.size,off:=1 } = some (.string s) ∧ covB s l = allF (fun p=>!badP s l p) (s.size - p) p)
 case atStart =>
  have h1:=World.alloc_heap_new w (Obj.cells #[Value.int IntKind.i64 n,Value.string s] 81)
  refine ⟨0,rfl,by omega,by omega,(Below.refl _ _).alloc (Nat.le_refl _) _,?_,rfl⟩
  unfold World.cell?;rw [h1];rfl
 case round =>
  obtain ⟨p,rfl,hp,hk,hB,hc,hv⟩:=hrel
  have HB:=Lib.hid hB
  have HC:=Lib.hid hc
  have HV:=Lib.hid hv
  clear hB hc hv
  by_cases hps:p < s.size
  case neg =>
   have:p = s.size:=by omega
   subst this
   gi_wp2_with fail
   refine bodyPost_ret (v:=.bool true) (results_tmp (t:=4) rfl _ _ _) rfl ⟨?_,HB.out⟩
   rw [HV.out,Nat.sub_self];rfl
  gi_wp2_with fail
  have hcp:(wr.alloc (Obj.cells #[Value.int IntKind.i64 (p:Int)] 3)).cell? { block:=wr.heap.size,off:=0 } = some (.int .i64 (p:Int)):=by
   have h:=World.alloc_heap_new wr (Obj.cells #[Value.int IntKind.i64 (p:Int)] 3)
   unfold World.cell?;rw [h];rfl
  have hba:=HB.out.alloc HB.out.size (Obj.cells #[Value.int IntKind.i64 (p:Int)] 3)
  have hcs:=(((Below.refl wr.heap.size wr).alloc (Nat.le_refl _) (Obj.cells #[Value.int IntKind.i64 (p:Int)] 3)).cell (p:={ block:=w.heap.size,off:=1 }) (World.block_lt_of_cell? _ _ HC.out)).trans HC.out
  have hn1:=World.block_lt_of_cell? _ _ hcs
  have hn2:=World.block_lt_of_cell? _ _ hcp
  refine (callsIn_wide.2 (contains107_108 _ (fun x=>hasB x (p:Int)) A c l _ (says108 _ _ (p:Int) hcp) (Kd.C_below HL.out hba) hlen)).mono ?_
  rintro e w5 ⟨rfl,hb5⟩
  have hc5:=(hb5.cell hn1).trans hcs
  have hp5:=(hb5.cell hn2).trans hcp
  have hB5:=hba.trans (hb5.mono hba.size)
  have HB5:=Lib.hid hB5
  have HC5:=Lib.hid hc5
  have hbt:=bt_at s (p:Int)
  obtain ⟨q,hq⟩:∃ q,l.any (fun x=>hasB x (p:Int)) = q:=⟨_,rfl⟩
  rw [hq]
  have hw1:=wrap_succ (i:=p) (by omega)
  have hstep:allF (fun p=>!badP s l p) (s.size - p) p = (!badP s l p && allF (fun p=>!badP s l p) (s.size - (p + 1)) (p + 1)):=by
   rw [show s.size - p = (s.size - (p + 1)) + 1 by omega];rfl
  have HST:=Lib.hid hstep
  have hbad:badP s l p = ((q && (bt s (p:Int) == 48)) || (!q && (bt s (p:Int) == 49))):=by unfold badP;rw [hq]
  have HBAD:=Lib.hid hbad
  obtain ⟨r,hr⟩:∃ r,(bt s (p:Int) == 48) = r:=⟨_,rfl⟩
  obtain ⟨r1,hr1⟩:∃ r,(bt s (p:Int) == 49) = r:=⟨_,rfl⟩
  have HR:=Lib.hid hr
  have HR1:=Lib.hid hr1
  rw [bt_get hps] at hr hr1
  clear hb5 hba hcs hcp hstep hbad hq hB5
  cases q <;> cases r <;> cases r1
  all_goals
   gi_wp2_with fail
   first
   | (refine bodyPost_ret (v:=.bool false) (results_tmp (t:=4) rfl _ _ _) rfl ⟨?_,HB5.out⟩;(rw [HV.out,HST.out,HBAD.out,HR.out,HR1.out]);rfl)
   | (gi_roundg (s.size - (p + 1));(case measure=>(clear hw1;omega));(case rel=>exact ⟨p + 1,by simp [hw1],by clear hw1;omega,by clear hw1;omega,HB5.out,HC5.out,by rw [HV.out,HST.out,HBAD.out,HR.out,HR1.out];rfl⟩))
end Go.Proofs.Ythpahlkhiknofaa.H
namespace Go.Proofs.Ythpahlkhiknofaa.G
open Go Go.RowKit Go.Proofs.YthpahlkhiknofaaW.PrintWords
def card_function_isCover.f (a0_0:Int) (a0_1:ByteArray) (l1:List S96):Option (Bool):=if H.fitL l1 ∧ a0_1.size ≤ 1000 then some (H.covB a0_1 l1) else none
theorem card_function_isCover.calls (a0_0:Int) (a0_1:ByteArray) (A1:Option Addr) (c1:Nat) (l1:List S96) (r:Bool) (w:World) (hr1:Kd.C k96 w A1 l1.length l1) (_:l1.length ≤ c1) (h:card_function_isCover.f a0_0 a0_1 l1 = some r) :
  Calls Try.prog 78 #[.agg #[.int .i64 a0_0,.string a0_1],.slice A1 l1.length c1] w fun e w'=>e = .returned (.bool r) ∧ Below w.heap.size w w':=by
 unfold card_function_isCover.f at h
 by_cases hf:H.fitL l1 ∧ a0_1.size ≤ 1000
 case neg =>
  rw [if_neg hf] at h
  cases h
 rw [if_pos hf] at h
 obtain rfl:=Option.some.inj h
 exact H.isCover78 a0_0 a0_1 A1 c1 l1 w hr1 hf.1 hf.2
end Go.Proofs.Ythpahlkhiknofaa.G
namespace Go.Proofs.Ythpahlkhiknofaa.G
open Go.RowKit Go.Proofs.YthpahlkhiknofaaW.PrintWords Go.Proofs.YthpahlkhiknofaaW.PrintLast Go.Proofs.YthpahlkhiknofaaW.PrintMore
set_option maxHeartbeats 8000000
set_option maxRecDepth 100000
attribute [local go_sem] max2_int min2_int max_two min_two max_three min_three max_four min_four   -- for this text's walks alone
def card_function_cubes.l0:Nat → List ByteArray → List (S96) → List ByteArray → Int → Int → Int → ByteArray → Option ((List (S96)) × Bool)
 | 0,_,_,_,_,_,_,_=>none
 | k + 1,x1,x6,x11,x12,x13,x339000,x339001=>if x13 < x12 then (if 0 ≤ x13 then (if x13 < (x11.length:Int) then ((card_newCube.f k (rdOf ByteArray.empty x11 x13)).bind fun bt340=>(if bt340.2.2 = true then (if ((rdOf ByteArray.empty x11 x13).size:Int) = x339000 then (if (x1.length:Int) > 32 then (some (([]:List (S96)),false)) else (if x6.length < 8796093022208 then (card_function_cubes.l0 k x1 (x6 ++ [(⟨bt340.1,bt340.2.1⟩:S96)]) x11 x12 (wrap64 (x13 + 1)) x339000 x339001) else (none))) else (some (([]:List (S96)),false))) else (some (([]:List (S96)),false)))) else (none)) else (none)) else (some (x6,true))
def card_function_cubes.f (k:Nat) (a0_0:Int) (a0_1:ByteArray) (l1:List ByteArray):Option ((List (S96)) × Bool):=card_function_cubes.l0 k l1 ([]:List (S96)) l1 (l1.length:Int) 0 a0_0 a0_1
theorem card_function_cubes.mono_l:∀ k,(∀ y0 y1 y2 y3 y4 y5 y6,LeO (card_function_cubes.l0 k y0 y1 y2 y3 y4 y5 y6) (card_function_cubes.l0 (k + 1) y0 y1 y2 y3 y4 y5 y6))
 | 0=>fun _ _ _ _ _ _ _ r h=>by simp [card_function_cubes.l0] at h
 | k + 1=>by
  have ih0:=card_function_cubes.mono_l k
  intro y0 y1 y2 y3 y4 y5 y6
  unfold card_function_cubes.l0
  repeat' first
  | (with_reducible exact ih0 _ _ _ _ _ _ _)
  | (with_reducible exact card_newCube.mono _ _)
  | (with_reducible exact LeO.refl _)
  | (with_reducible exact LeO.none _)
  | (with_reducible refine LeO.ite ?_ ?_)
  | (with_reducible refine LeO.bind ?_ (fun _=>?_))
  | exact ih0 _ _ _ _ _ _ _
  | exact card_newCube.mono _ _
  | exact LeO.none _
  | refine LeO.ite ?_ ?_
  | refine LeO.bind ?_ (fun _=>?_)
theorem card_function_cubes.mono:∀ a0 a1 a2 k,LeO (card_function_cubes.f k a0 a1 a2) (card_function_cubes.f (k + 1) a0 a1 a2):=by
 intro a0 a1 a2 k
 have ih0:=card_function_cubes.mono_l k
 unfold card_function_cubes.f
 repeat' first
   | (with_reducible exact ih0 _ _ _ _ _ _ _)
   | (with_reducible exact card_newCube.mono _ _)
   | (with_reducible exact LeO.refl _)
   | (with_reducible exact LeO.none _)
   | (with_reducible refine LeO.ite ?_ ?_)
   | (with_reducible refine LeO.bind ?_ (fun _=>?_))
   | exact ih0 _ _ _ _ _ _ _
   | exact card_newCube.mono _ _
   | exact LeO.none _
   | refine LeO.ite ?_ ?_
   | refine LeO.bind ?_ (fun _=>?_)
theorem card_function_cubes.calls (k:Nat) (a0_0:Int) (a0_1:ByteArray) (A1:Option Addr) (c1:Nat) (l1:List ByteArray) (r1:List (S96)) (r2:Bool) (w:World) (hr1:Kd.C Kd.string w A1 l1.length l1) (hc1:l1.length ≤ c1) (h:card_function_cubes.f k a0_0 a0_1 l1 = some (r1,r2)) :
  Calls Try.prog 77 #[.agg #[.int .i64 a0_0,.string a0_1],.slice A1 l1.length c1] w fun e w'=>∃ v0_:Value,e = .returned (.tuple #[v0_,.bool r2]) ∧ Kd.R k96 96 w' w.heap.size (fun _=>True) v0_ r1 ∧ Below w.heap.size w w':=by
 have hu81:=Try.underlying81
 have hu96:=Try.underlying96
 have HR1:=Aside0.mk hr1
 have HC1:=Aside0.mk hc1
 clear hr1 hc1
 have HB:=Aside0.mk (Below.refl w.heap.size w)
 have H:(card_function_cubes.l0 k l1 ([]:List (S96)) l1 (l1.length:Int) 0 a0_0 a0_1) = some (r1,r2):=h
 clear h
 have H':=Aside0.mk H
 clear H
 go_enter Try.func77,Try.ntmps77
 go_wp2_with (first | ((with_reducible refine gate_dst (N:=2) rfl ?_);(try (refine gate_guard (by rfl) ?_;dsimp only));refine box_event ?hg (N:=2) ?hd (cs:=#[.int .i64 a0_0,.string a0_1]) (t:=81) ?hr ?_;(case hd=>rfl);(case hg=>rfl);(case hr=>first | (go_simp;done) | (go_simp;rfl));intro gb338 hg w3 hbox hb;have n0_:=Aside0.mk (below_step (by repeat (first | (with_reducible first | exact HB.out | apply below_alloc | apply pw_below_drewN | apply below_drew1) | exact HB.out)) hb);have n1_:=Aside0.mk (hbox);have n2_:=Aside0.mk ((by rw [hg];exact (below_size (by repeat (first | (with_reducible first | exact HB.out | apply below_alloc | apply pw_below_drewN | apply below_drew1) | exact HB.out))):w.heap.size ≤ gb338));have n3_:=Aside0.mk ((by rw [hg];exact (below_size (by repeat (first | (with_reducible first | exact HB.out | apply below_alloc | apply pw_below_drewN | apply below_drew1) | exact HB.out))):w.heap.size ≤ gb338));clear HB;have HB:=n0_;have BK338:=n1_;have GW338:=n2_;have GE338:=n3_;clear n0_ n1_ n2_ n3_;clear hb hbox hg))
 go_loopg [6,13] k (fun kq v6 v13 w'=>∃ (x6_1:List (S96)) (x13_1:Int),v13 = .int .i64 x13_1 ∧ Aside0 (card_function_cubes.l0 kq l1 x6_1 l1 (l1.length:Int) x13_1 a0_0 a0_1 = some (r1,r2)) ∧ Aside0 (kq ≤ k) ∧ Aside0 (Kd.R k96 96 w' w.heap.size (fun _=>True) v6 x6_1) ∧ Aside0 (w'.heap[gb338]? = some (.cells #[.int .i64 a0_0,.string a0_1] 81 (0,0))) ∧ Aside0 (Below w.heap.size w w'))
 case atStart=>exact ⟨(([]:List (S96))),(0),(by first | rfl | (simp;done) | (simp [*];done)),H',⟨Nat.le_refl _⟩,⟨by first | exact Kd.R_nil _ _ _ _ _ | exact Kd.N_nil _ _ _ _ _ | exact Kd.V_nil _ _ _ _ _ | exact Kd.Q_nil _ _ _ _ _ | exact Kd.S_nil _ _ _ _ _⟩,⟨by (with_reducible repeat (first | refine blk_drewN ?_ _ | refine blk_drew ?_ | refine blk_alloc ?_ _));exact BK338.out⟩,⟨by repeat (first | (with_reducible first | exact HB.out | apply below_alloc | apply pw_below_drewN | apply below_drew1 | refine below_set ?_ GE338.out) | exact HB.out)⟩⟩
 case round =>
  clear H'
  try clear c1
  try clear p2
  obtain ⟨x6_1,x13_1,rfl,HA,HK1,HO_6,BK338,HB⟩:=hrel
  cases gk with
  | zero=>exact absurd HA.out (by simp [card_function_cubes.l0])
  | succ k1 =>
   have H:=HA.out
   clear HA
   simp only [card_function_cubes.l0] at H
   by_cases c4:x13_1 < (l1.length:Int)
   case neg =>
    rw [if_neg c4] at H
    have c4b0:decide (x13_1 < (l1.length:Int)) = false:=decide_eq_false c4
    clear c4
    simp only [Option.some.injEq,Prod.mk.injEq] at H
    obtain ⟨rfl,rfl⟩:=H
    go_wp2
    go_ret2
    exact ⟨_,by first | rfl | (simp [errW_none,errW_some] <;> rfl) | (simp [*,errW_none,errW_some] <;> rfl),by (with_reducible repeat (first | apply Kd.R_alloc | apply Kd.R_drewN | apply Kd.R_drew));exact HO_6.out,by repeat (first | (with_reducible first | exact HB.out | apply below_alloc | apply pw_below_drewN | apply below_drew1 | refine below_set ?_ GE338.out) | exact HB.out)⟩
   rw [if_pos c4] at H
   have c4b0:decide (x13_1 < (l1.length:Int)) = true:=decide_eq_true c4
   clear c4
   by_cases c5:0 ≤ x13_1
   case neg =>
    rw [if_neg c5] at H
    exact absurd H (by simp)
   rw [if_pos c5] at H
   have c5b0:decide (0 ≤ x13_1) = true:=decide_eq_true c5
   clear c5
   by_cases c6:x13_1 < (l1.length:Int)
   case neg =>
    rw [if_neg c6] at H
    exact absurd H (by simp)
   rw [if_pos c6] at H
   have c6b0:decide (x13_1 < (l1.length:Int)) = true:=decide_eq_true c6
   clear c6
   replace H:=Option.bind_eq_some_iff.mp H
   obtain ⟨⟨t340,t341,t342⟩,A70,H⟩:=H
   replace H:(if t342 = true then (if ((rdOf ByteArray.empty l1 x13_1).size:Int) = a0_0 then (if (l1.length:Int) > 32 then (some (([]:List (S96)),false)) else (if x6_1.length < 8796093022208 then (card_function_cubes.l0 k1 l1 (x6_1 ++ [(⟨t340,t341⟩:S96)]) l1 (l1.length:Int) (wrap64 (x13_1 + 1)) a0_0 a0_1) else (none))) else (some (([]:List (S96)),false))) else (some (([]:List (S96)),false))) = some (r1,r2):=H
   have A7:=Aside0.mk A70
   clear A70
   by_cases c8:t342 = true
   case neg =>
    replace c8:=Bool.eq_false_iff.mpr c8
    subst c8
    have H1:(some (([]:List (S96)),false)) = some (r1,r2):=by rw [if_neg (show ¬ (false = true) by decide)] at H;exact H
    clear H
    have H:=H1
    clear H1
    simp only [Option.some.injEq,Prod.mk.injEq] at H
    obtain ⟨rfl,rfl⟩:=H
    have p339:0 ≤ (x13_1:Int):=of_decide_eq_true (by first | (with_reducible assumption) | assumption)
    have q339:x13_1 < (l1.length:Int):=of_decide_eq_true (by first | (with_reducible assumption) | assumption)
    obtain ⟨ad339,e339,hx339_0⟩:=Kd.at_string HR1.out x13_1 p339 q339
    cases e339
    replace hx339_0:=(HB.out.cell (World.block_lt_of_cell? w _ hx339_0)).trans hx339_0
    replace p339:=eq_true p339
    replace q339:=eq_true q339
    go_wp2_with (first | ((with_reducible refine gate_callee (f:=69) rfl ?_);refine goesL_ (some 19) rfl rfl Try.func69 (by kernel_rfl) rfl #[.string (rdOf ByteArray.empty l1 x13_1)] rfl (by (try simp only [List.map_toArray,List.map_cons,List.map_nil]);first | done | rfl | (simp only [List.length_drop,List.length_take];rfl)) ?_;(with_reducible refine (card_newCube.calls k1 (rdOf ByteArray.empty l1 x13_1) t340 t341 false _ A7.out).mono ?_);rintro e w28 ⟨rfl,hb⟩;refine ⟨_,rfl,?_⟩;have n0_:=Aside0.mk (Kd.R_below (by (with_reducible repeat (first | apply Kd.R_alloc | apply Kd.R_drewN | apply Kd.R_drew));exact HO_6.out) hb);have n1_:=Aside0.mk (blk_below (g:=gb338) (o:=.cells #[.int .i64 a0_0,.string a0_1] 81 (0,0)) (by (with_reducible repeat (first | refine blk_drewN ?_ _ | refine blk_drew ?_ | refine blk_alloc ?_ _));exact BK338.out) hb);have n2_:=Aside0.mk (below_step (by repeat (first | (with_reducible first | exact HB.out | apply below_alloc | apply pw_below_drewN | apply below_drew1 | refine below_set ?_ GE338.out) | exact HB.out)) hb);clear HO_6;clear BK338;clear HB;have HO_6:=n0_;have BK338:=n1_;have HB:=n2_;clear n0_ n1_ n2_;(try clear hb)) | ((with_reducible refine gate_dst (N:=9) rfl ?_);(try (refine gate_guard (by rfl) ?_;dsimp only));refine box_event ?hg (N:=9) ?hd (cs:=#[.int .i64 0,.int .i64 0]) (t:=96) ?hr ?_;(case hd=>rfl);(case hg=>rfl);(case hr=>first | (go_simp;done) | (go_simp;rfl));intro gb343 hg w29 hbox hb;have n0_:=Aside0.mk (Kd.R_below (Kd.R_elderB (by (with_reducible repeat (first | apply Kd.R_alloc | apply Kd.R_drewN | apply Kd.R_drew));exact HO_6.out) gb343 (Nat.le_of_eq hg.symm)) hb);have n1_:=Aside0.mk (blk_below (g:=gb338) (o:=.cells #[.int .i64 a0_0,.string a0_1] 81 (0,0)) (by (with_reducible repeat (first | refine blk_drewN ?_ _ | refine blk_drew ?_ | refine blk_alloc ?_ _));exact BK338.out) hb);have n2_:=Aside0.mk (below_step (by repeat (first | (with_reducible first | exact HB.out | apply below_alloc | apply pw_below_drewN | apply below_drew1 | refine below_set ?_ GE338.out) | exact HB.out)) hb);have n3_:=Aside0.mk (hbox);have n4_:=Aside0.mk ((by rw [hg];exact (below_size (by repeat (first | (with_reducible first | exact HB.out | apply below_alloc | apply pw_below_drewN | apply below_drew1 | refine below_set ?_ GE338.out) | exact HB.out))):w.heap.size ≤ gb343));have n5_:=Aside0.mk ((by rw [hg];exact (below_size (by repeat (first | (with_reducible first | exact HB.out | apply below_alloc | apply pw_below_drewN | apply below_drew1 | refine below_set ?_ GE338.out) | exact HB.out))):w.heap.size ≤ gb343));have n6_:=Aside0.mk ((by rw [hg];exact Nat.ne_of_lt (blk_lt (g:=gb338) (o:=.cells #[.int .i64 a0_0,.string a0_1] 81 (0,0)) (by (with_reducible repeat (first | refine blk_drewN ?_ _ | refine blk_drew ?_ | refine blk_alloc ?_ _));exact BK338.out)):gb338 ≠ gb343));have n7_:=Aside0.mk ((by rw [hg];exact Nat.ne_of_gt (blk_lt (g:=gb338) (o:=.cells #[.int .i64 a0_0,.string a0_1] 81 (0,0)) (by (with_reducible repeat (first | refine blk_drewN ?_ _ | refine blk_drew ?_ | refine blk_alloc ?_ _));exact BK338.out)):gb343 ≠ gb338));clear HO_6;clear BK338;clear HB;have HO_6:=n0_;have BK338:=n1_;have HB:=n2_;have BK343:=n3_;have GW343:=n4_;have GE343:=n5_;have NB338_343:=n6_;have NB343_338:=n7_;clear n0_ n1_ n2_ n3_ n4_ n5_ n6_ n7_;clear hb hbox hg;have hnb30:=NB343_338.out;have hnc30:=NB338_343.out;have hcz31_0:w29.cell? ⟨gb343,0,none⟩ = some (.int .i64 0):=(blk_cell BK343.out 0).trans rfl;have hcz31_1:w29.cell? ⟨gb343,1,none⟩ = some (.int .i64 0):=(blk_cell BK343.out 1).trans rfl;have hfz31_0:=blk_frozen BK343.out 0;have hfz31_1:=blk_frozen BK343.out 1))
    go_ret2
    exact ⟨_,by first | rfl | (simp [errW_none,errW_some] <;> rfl) | (simp [*,errW_none,errW_some] <;> rfl),by first | exact Kd.R_nil _ _ _ _ _ | exact Kd.N_nil _ _ _ _ _ | exact Kd.V_nil _ _ _ _ _ | exact Kd.Q_nil _ _ _ _ _ | exact Kd.S_nil _ _ _ _ _,by repeat (first | (with_reducible first | exact HB.out | apply below_alloc | apply pw_below_drewN | apply below_drew1 | refine below_set ?_ GE338.out | refine below_set ?_ GE343.out) | exact HB.out)⟩
   subst c8
   have H1:(if ((rdOf ByteArray.empty l1 x13_1).size:Int) = a0_0 then (if (l1.length:Int) > 32 then (some (([]:List (S96)),false)) else (if x6_1.length < 8796093022208 then (card_function_cubes.l0 k1 l1 (x6_1 ++ [(⟨t340,t341⟩:S96)]) l1 (l1.length:Int) (wrap64 (x13_1 + 1)) a0_0 a0_1) else (none))) else (some (([]:List (S96)),false))) = some (r1,r2):=by rw [if_pos rfl] at H;exact H
   clear H
   have H:=H1
   clear H1
   by_cases c9:((rdOf ByteArray.empty l1 x13_1).size:Int) = a0_0
   case neg =>
    rw [if_neg c9] at H
    have c9b0:(((rdOf ByteArray.empty l1 x13_1).size:Int) == a0_0) = false:=beq_eq_false_iff_ne.mpr c9
    have c9b1:(((rdOf ByteArray.empty l1 x13_1).size:Int) != a0_0) = true:=bne_iff_ne.mpr c9
    simp only [Option.some.injEq,Prod.mk.injEq] at H
    obtain ⟨rfl,rfl⟩:=H
    have p339:0 ≤ (x13_1:Int):=of_decide_eq_true (by first | (with_reducible assumption) | assumption)
    have q339:x13_1 < (l1.length:Int):=of_decide_eq_true (by first | (with_reducible assumption) | assumption)
    obtain ⟨ad339,e339,hx339_0⟩:=Kd.at_string HR1.out x13_1 p339 q339
    cases e339
    replace hx339_0:=(HB.out.cell (World.block_lt_of_cell? w _ hx339_0)).trans hx339_0
    replace p339:=eq_true p339
    replace q339:=eq_true q339
    go_wp2_with (first | ((with_reducible refine gate_callee (f:=69) rfl ?_);refine goesL_ (some 19) rfl rfl Try.func69 (by kernel_rfl) rfl #[.string (rdOf ByteArray.empty l1 x13_1)] rfl (by (try simp only [List.map_toArray,List.map_cons,List.map_nil]);first | done | rfl | (simp only [List.length_drop,List.length_take];rfl)) ?_;(with_reducible refine (card_newCube.calls k1 (rdOf ByteArray.empty l1 x13_1) t340 t341 true _ A7.out).mono ?_);rintro e w23 ⟨rfl,hb⟩;refine ⟨_,rfl,?_⟩;have n0_:=Aside0.mk (Kd.R_below (by (with_reducible repeat (first | apply Kd.R_alloc | apply Kd.R_drewN | apply Kd.R_drew));exact HO_6.out) hb);have n1_:=Aside0.mk (blk_below (g:=gb338) (o:=.cells #[.int .i64 a0_0,.string a0_1] 81 (0,0)) (by (with_reducible repeat (first | refine blk_drewN ?_ _ | refine blk_drew ?_ | refine blk_alloc ?_ _));exact BK338.out) hb);have n2_:=Aside0.mk (below_step (by repeat (first | (with_reducible first | exact HB.out | apply below_alloc | apply pw_below_drewN | apply below_drew1 | refine below_set ?_ GE338.out) | exact HB.out)) hb);clear HO_6;clear BK338;clear HB;have HO_6:=n0_;have BK338:=n1_;have HB:=n2_;clear n0_ n1_ n2_;(try clear hb)) | ((with_reducible refine gate_dst (N:=9) rfl ?_);(try (refine gate_guard (by rfl) ?_;dsimp only));refine box_event ?hg (N:=9) ?hd (cs:=#[.int .i64 0,.int .i64 0]) (t:=96) ?hr ?_;(case hd=>rfl);(case hg=>rfl);(case hr=>first | (go_simp;done) | (go_simp;rfl));intro gb343 hg w24 hbox hb;have n0_:=Aside0.mk (Kd.R_below (Kd.R_elderB (by (with_reducible repeat (first | apply Kd.R_alloc | apply Kd.R_drewN | apply Kd.R_drew));exact HO_6.out) gb343 (Nat.le_of_eq hg.symm)) hb);have n1_:=Aside0.mk (blk_below (g:=gb338) (o:=.cells #[.int .i64 a0_0,.string a0_1] 81 (0,0)) (by (with_reducible repeat (first | refine blk_drewN ?_ _ | refine blk_drew ?_ | refine blk_alloc ?_ _));exact BK338.out) hb);have n2_:=Aside0.mk (below_step (by repeat (first | (with_reducible first | exact HB.out | apply below_alloc | apply pw_below_drewN | apply below_drew1 | refine below_set ?_ GE338.out) | exact HB.out)) hb);have n3_:=Aside0.mk (hbox);have n4_:=Aside0.mk ((by rw [hg];exact (below_size (by repeat (first | (with_reducible first | exact HB.out | apply below_alloc | apply pw_below_drewN | apply below_drew1 | refine below_set ?_ GE338.out) | exact HB.out))):w.heap.size ≤ gb343));have n5_:=Aside0.mk ((by rw [hg];exact (below_size (by repeat (first | (with_reducible first | exact HB.out | apply below_alloc | apply pw_below_drewN | apply below_drew1 | refine below_set ?_ GE338.out) | exact HB.out))):w.heap.size ≤ gb343));have n6_:=Aside0.mk ((by rw [hg];exact Nat.ne_of_lt (blk_lt (g:=gb338) (o:=.cells #[.int .i64 a0_0,.string a0_1] 81 (0,0)) (by (with_reducible repeat (first | refine blk_drewN ?_ _ | refine blk_drew ?_ | refine blk_alloc ?_ _));exact BK338.out)):gb338 ≠ gb343));have n7_:=Aside0.mk ((by rw [hg];exact Nat.ne_of_gt (blk_lt (g:=gb338) (o:=.cells #[.int .i64 a0_0,.string a0_1] 81 (0,0)) (by (with_reducible repeat (first | refine blk_drewN ?_ _ | refine blk_drew ?_ | refine blk_alloc ?_ _));exact BK338.out)):gb343 ≠ gb338));clear HO_6;clear BK338;clear HB;have HO_6:=n0_;have BK338:=n1_;have HB:=n2_;have BK343:=n3_;have GW343:=n4_;have GE343:=n5_;have NB338_343:=n6_;have NB343_338:=n7_;clear n0_ n1_ n2_ n3_ n4_ n5_ n6_ n7_;clear hb hbox hg;have hnb25:=NB343_338.out;have hnc25:=NB338_343.out;have hcz26_0:w24.cell? ⟨gb343,0,none⟩ = some (.int .i64 0):=(blk_cell BK343.out 0).trans rfl;have hcz26_1:w24.cell? ⟨gb343,1,none⟩ = some (.int .i64 0):=(blk_cell BK343.out 1).trans rfl;have hfz26_0:=blk_frozen BK343.out 0;have hfz26_1:=blk_frozen BK343.out 1;have hcz27_0:w24.cell? ⟨gb338,0,none⟩ = some (.int .i64 a0_0):=(blk_cell BK338.out 0).trans rfl;have hcz27_1:w24.cell? ⟨gb338,1,none⟩ = some (.string a0_1):=(blk_cell BK338.out 1).trans rfl;have hfz27_0:=blk_frozen BK338.out 0;have hfz27_1:=blk_frozen BK338.out 1))
    go_ret2
    exact ⟨_,by first | rfl | (simp [errW_none,errW_some] <;> rfl) | (simp [*,errW_none,errW_some] <;> rfl),by first | exact Kd.R_nil _ _ _ _ _ | exact Kd.N_nil _ _ _ _ _ | exact Kd.V_nil _ _ _ _ _ | exact Kd.Q_nil _ _ _ _ _ | exact Kd.S_nil _ _ _ _ _,by repeat (first | (with_reducible first | exact HB.out | apply below_alloc | apply pw_below_drewN | apply below_drew1 | refine below_set ?_ GE338.out | refine below_set ?_ GE343.out) | exact HB.out)⟩
   rw [if_pos c9] at H
   have c9b0:(((rdOf ByteArray.empty l1 x13_1).size:Int) == a0_0) = true:=beq_iff_eq.mpr c9
   have c9b1:(((rdOf ByteArray.empty l1 x13_1).size:Int) != a0_0) = false:=bne_eq_false_iff_eq.mpr c9
   clear c9
   by_cases c10:(l1.length:Int) > 32
   ·rw [if_pos c10] at H
    have c10b0:decide (32 < (l1.length:Int)) = true:=decide_eq_true c10
    have c10b1:decide (32 < l1.length) = true:=decide_eq_true (by omega)
    clear c10
    simp only [Option.some.injEq,Prod.mk.injEq] at H
    obtain ⟨rfl,rfl⟩:=H
    have p339:0 ≤ (x13_1:Int):=of_decide_eq_true (by first | (with_reducible assumption) | assumption)
    have q339:x13_1 < (l1.length:Int):=of_decide_eq_true (by first | (with_reducible assumption) | assumption)
    obtain ⟨ad339,e339,hx339_0⟩:=Kd.at_string HR1.out x13_1 p339 q339
    cases e339
    replace hx339_0:=(HB.out.cell (World.block_lt_of_cell? w _ hx339_0)).trans hx339_0
    replace p339:=eq_true p339
    replace q339:=eq_true q339
    go_wp2_with (first | ((with_reducible refine gate_callee (f:=69) rfl ?_);refine goesL_ (some 19) rfl rfl Try.func69 (by kernel_rfl) rfl #[.string (rdOf ByteArray.empty l1 x13_1)] rfl (by (try simp only [List.map_toArray,List.map_cons,List.map_nil]);first | done | rfl | (simp only [List.length_drop,List.length_take];rfl)) ?_;(with_reducible refine (card_newCube.calls k1 (rdOf ByteArray.empty l1 x13_1) t340 t341 true _ A7.out).mono ?_);rintro e w11 ⟨rfl,hb⟩;refine ⟨_,rfl,?_⟩;have n0_:=Aside0.mk (Kd.R_below (by (with_reducible repeat (first | apply Kd.R_alloc | apply Kd.R_drewN | apply Kd.R_drew));exact HO_6.out) hb);have n1_:=Aside0.mk (blk_below (g:=gb338) (o:=.cells #[.int .i64 a0_0,.string a0_1] 81 (0,0)) (by (with_reducible repeat (first | refine blk_drewN ?_ _ | refine blk_drew ?_ | refine blk_alloc ?_ _));exact BK338.out) hb);have n2_:=Aside0.mk (below_step (by repeat (first | (with_reducible first | exact HB.out | apply below_alloc | apply pw_below_drewN | apply below_drew1 | refine below_set ?_ GE338.out) | exact HB.out)) hb);clear HO_6;clear BK338;clear HB;have HO_6:=n0_;have BK338:=n1_;have HB:=n2_;clear n0_ n1_ n2_;(try clear hb)) | ((with_reducible refine gate_dst (N:=9) rfl ?_);(try (refine gate_guard (by rfl) ?_;dsimp only));refine box_event ?hg (N:=9) ?hd (cs:=#[.int .i64 0,.int .i64 0]) (t:=96) ?hr ?_;(case hd=>rfl);(case hg=>rfl);(case hr=>first | (go_simp;done) | (go_simp;rfl));intro gb343 hg w12 hbox hb;have n0_:=Aside0.mk (Kd.R_below (Kd.R_elderB (by (with_reducible repeat (first | apply Kd.R_alloc | apply Kd.R_drewN | apply Kd.R_drew));exact HO_6.out) gb343 (Nat.le_of_eq hg.symm)) hb);have n1_:=Aside0.mk (blk_below (g:=gb338) (o:=.cells #[.int .i64 a0_0,.string a0_1] 81 (0,0)) (by (with_reducible repeat (first | refine blk_drewN ?_ _ | refine blk_drew ?_ | refine blk_alloc ?_ _));exact BK338.out) hb);have n2_:=Aside0.mk (below_step (by repeat (first | (with_reducible first | exact HB.out | apply below_alloc | apply pw_below_drewN | apply below_drew1 | refine below_set ?_ GE338.out) | exact HB.out)) hb);have n3_:=Aside0.mk (hbox);have n4_:=Aside0.mk ((by rw [hg];exact (below_size (by repeat (first | (with_reducible first | exact HB.out | apply below_alloc | apply pw_below_drewN | apply below_drew1 | refine below_set ?_ GE338.out) | exact HB.out))):w.heap.size ≤ gb343));have n5_:=Aside0.mk ((by rw [hg];exact (below_size (by repeat (first | (with_reducible first | exact HB.out | apply below_alloc | apply pw_below_drewN | apply below_drew1 | refine below_set ?_ GE338.out) | exact HB.out))):w.heap.size ≤ gb343));have n6_:=Aside0.mk ((by rw [hg];exact Nat.ne_of_lt (blk_lt (g:=gb338) (o:=.cells #[.int .i64 a0_0,.string a0_1] 81 (0,0)) (by (with_reducible repeat (first | refine blk_drewN ?_ _ | refine blk_drew ?_ | refine blk_alloc ?_ _));exact BK338.out)):gb338 ≠ gb343));have n7_:=Aside0.mk ((by rw [hg];exact Nat.ne_of_gt (blk_lt (g:=gb338) (o:=.cells #[.int .i64 a0_0,.string a0_1] 81 (0,0)) (by (with_reducible repeat (first | refine blk_drewN ?_ _ | refine blk_drew ?_ | refine blk_alloc ?_ _));exact BK338.out)):gb343 ≠ gb338));clear HO_6;clear BK338;clear HB;have HO_6:=n0_;have BK338:=n1_;have HB:=n2_;have BK343:=n3_;have GW343:=n4_;have GE343:=n5_;have NB338_343:=n6_;have NB343_338:=n7_;clear n0_ n1_ n2_ n3_ n4_ n5_ n6_ n7_;clear hb hbox hg;have hnb13:=NB343_338.out;have hnc13:=NB338_343.out;have hcz14_0:w12.cell? ⟨gb343,0,none⟩ = some (.int .i64 0):=(blk_cell BK343.out 0).trans rfl;have hcz14_1:w12.cell? ⟨gb343,1,none⟩ = some (.int .i64 0):=(blk_cell BK343.out 1).trans rfl;have hfz14_0:=blk_frozen BK343.out 0;have hfz14_1:=blk_frozen BK343.out 1;have hcz15_0:w12.cell? ⟨gb338,0,none⟩ = some (.int .i64 a0_0):=(blk_cell BK338.out 0).trans rfl;have hcz15_1:w12.cell? ⟨gb338,1,none⟩ = some (.string a0_1):=(blk_cell BK338.out 1).trans rfl;have hfz15_0:=blk_frozen BK338.out 0;have hfz15_1:=blk_frozen BK338.out 1))
    go_ret2
    exact ⟨_,by first | rfl | (simp [errW_none,errW_some] <;> rfl) | (simp [*,errW_none,errW_some] <;> rfl),by first | exact Kd.R_nil _ _ _ _ _ | exact Kd.N_nil _ _ _ _ _ | exact Kd.V_nil _ _ _ _ _ | exact Kd.Q_nil _ _ _ _ _ | exact Kd.S_nil _ _ _ _ _,by repeat (first | (with_reducible first | exact HB.out | apply below_alloc | apply pw_below_drewN | apply below_drew1 | refine below_set ?_ GE338.out | refine below_set ?_ GE343.out) | exact HB.out)⟩
   rw [if_neg c10] at H
   have c10b0:decide (32 < (l1.length:Int)) = false:=decide_eq_false c10
   have c10b1:decide (32 < l1.length) = false:=decide_eq_false (by omega)
   clear c10
   by_cases c16:x6_1.length < 8796093022208
   case neg =>
    rw [if_neg c16] at H
    exact absurd H (by simp)
   rw [if_pos c16] at H
   have LMc16:=Aside0.mk c16
   clear c16
   obtain ⟨y344,hy344⟩:∃ y_:List (S96),y_ = (x6_1 ++ [(⟨t340,t341⟩:S96)]):=⟨_,rfl⟩
   replace H:(card_function_cubes.l0 k1 l1 y344 l1 (l1.length:Int) (wrap64 (x13_1 + 1)) a0_0 a0_1) = some (r1,r2):=by first | (rw [hy344];with_reducible exact H) | (have H2_:=(Option.bind_some _ _).symm.trans H;rw [hy344];with_reducible exact H2_) | (have H2_:=(Option.bind_some _ _).symm.trans H;with_reducible exact H2_) | with_reducible exact H | (rw [hy344];exact H) | exact H
   have Ny344:=Aside0.mk hy344
   clear hy344
   have H':=Aside0.mk H
   clear H
   have p339:0 ≤ (x13_1:Int):=of_decide_eq_true (by first | (with_reducible assumption) | assumption)
   have q339:x13_1 < (l1.length:Int):=of_decide_eq_true (by first | (with_reducible assumption) | assumption)
   obtain ⟨ad339,e339,hx339_0⟩:=Kd.at_string HR1.out x13_1 p339 q339
   cases e339
   replace hx339_0:=(HB.out.cell (World.block_lt_of_cell? w _ hx339_0)).trans hx339_0
   replace p339:=eq_true p339
   replace q339:=eq_true q339
   go_wp2_with (first | ((with_reducible refine gate_callee (f:=69) rfl ?_);refine goesL_ (some 19) rfl rfl Try.func69 (by kernel_rfl) rfl #[.string (rdOf ByteArray.empty l1 x13_1)] rfl (by (try simp only [List.map_toArray,List.map_cons,List.map_nil]);first | done | rfl | (simp only [List.length_drop,List.length_take];rfl)) ?_;(with_reducible refine (card_newCube.calls k1 (rdOf ByteArray.empty l1 x13_1) t340 t341 true _ A7.out).mono ?_);rintro e w17 ⟨rfl,hb⟩;refine ⟨_,rfl,?_⟩;have n0_:=Aside0.mk (Kd.R_below (by (with_reducible repeat (first | apply Kd.R_alloc | apply Kd.R_drewN | apply Kd.R_drew));exact HO_6.out) hb);have n1_:=Aside0.mk (blk_below (g:=gb338) (o:=.cells #[.int .i64 a0_0,.string a0_1] 81 (0,0)) (by (with_reducible repeat (first | refine blk_drewN ?_ _ | refine blk_drew ?_ | refine blk_alloc ?_ _));exact BK338.out) hb);have n2_:=Aside0.mk (below_step (by repeat (first | (with_reducible first | exact HB.out | apply below_alloc | apply pw_below_drewN | apply below_drew1 | refine below_set ?_ GE338.out) | exact HB.out)) hb);clear HO_6;clear BK338;clear HB;have HO_6:=n0_;have BK338:=n1_;have HB:=n2_;clear n0_ n1_ n2_;(try clear hb)) | ((with_reducible refine gate_dst (N:=9) rfl ?_);(try (refine gate_guard (by rfl) ?_;dsimp only));refine box_event ?hg (N:=9) ?hd (cs:=#[.int .i64 0,.int .i64 0]) (t:=96) ?hr ?_;(case hd=>rfl);(case hg=>rfl);(case hr=>first | (go_simp;done) | (go_simp;rfl));intro gb343 hg w18 hbox hb;have n0_:=Aside0.mk (Kd.R_below (Kd.R_elderB (by (with_reducible repeat (first | apply Kd.R_alloc | apply Kd.R_drewN | apply Kd.R_drew));exact HO_6.out) gb343 (Nat.le_of_eq hg.symm)) hb);have n1_:=Aside0.mk (blk_below (g:=gb338) (o:=.cells #[.int .i64 a0_0,.string a0_1] 81 (0,0)) (by (with_reducible repeat (first | refine blk_drewN ?_ _ | refine blk_drew ?_ | refine blk_alloc ?_ _));exact BK338.out) hb);have n2_:=Aside0.mk (below_step (by repeat (first | (with_reducible first | exact HB.out | apply below_alloc | apply pw_below_drewN | apply below_drew1 | refine below_set ?_ GE338.out) | exact HB.out)) hb);have n3_:=Aside0.mk (hbox);have n4_:=Aside0.mk ((by rw [hg];exact (below_size (by repeat (first | (with_reducible first | exact HB.out | apply below_alloc | apply pw_below_drewN | apply below_drew1 | refine below_set ?_ GE338.out) | exact HB.out))):w.heap.size ≤ gb343));have n5_:=Aside0.mk ((by rw [hg];exact (below_size (by repeat (first | (with_reducible first | exact HB.out | apply below_alloc | apply pw_below_drewN | apply below_drew1 | refine below_set ?_ GE338.out) | exact HB.out))):w.heap.size ≤ gb343));have n6_:=Aside0.mk ((by rw [hg];exact Nat.ne_of_lt (blk_lt (g:=gb338) (o:=.cells #[.int .i64 a0_0,.string a0_1] 81 (0,0)) (by (with_reducible repeat (first | refine blk_drewN ?_ _ | refine blk_drew ?_ | refine blk_alloc ?_ _));exact BK338.out)):gb338 ≠ gb343));have n7_:=Aside0.mk ((by rw [hg];exact Nat.ne_of_gt (blk_lt (g:=gb338) (o:=.cells #[.int .i64 a0_0,.string a0_1] 81 (0,0)) (by (with_reducible repeat (first | refine blk_drewN ?_ _ | refine blk_drew ?_ | refine blk_alloc ?_ _));exact BK338.out)):gb343 ≠ gb338));clear HO_6;clear BK338;clear HB;have HO_6:=n0_;have BK338:=n1_;have HB:=n2_;have BK343:=n3_;have GW343:=n4_;have GE343:=n5_;have NB338_343:=n6_;have NB343_338:=n7_;clear n0_ n1_ n2_ n3_ n4_ n5_ n6_ n7_;clear hb hbox hg;have hnb19:=NB343_338.out;have hnc19:=NB338_343.out;have hcz20_0:w18.cell? ⟨gb343,0,none⟩ = some (.int .i64 0):=(blk_cell BK343.out 0).trans rfl;have hcz20_1:w18.cell? ⟨gb343,1,none⟩ = some (.int .i64 0):=(blk_cell BK343.out 1).trans rfl;have hfz20_0:=blk_frozen BK343.out 0;have hfz20_1:=blk_frozen BK343.out 1;have hcz21_0:w18.cell? ⟨gb338,0,none⟩ = some (.int .i64 a0_0):=(blk_cell BK338.out 0).trans rfl;have hcz21_1:w18.cell? ⟨gb338,1,none⟩ = some (.string a0_1):=(blk_cell BK338.out 1).trans rfl;have hfz21_0:=blk_frozen BK338.out 0;have hfz21_1:=blk_frozen BK338.out 1) | ((with_reducible refine gate_builtin (b:=.append) (xs:=#[.tmp 36,.tmp 38]) rfl ?_);(try (refine gate_guard (by rfl) ?_;dsimp only));at_builtin;refine Kd.R_append k96 (w0:=w) w.heap.size rfl (.tmp 36) (.tmp 38) 93 96 (.agg #[(.int .i64 0),(.int .i64 0)]) 16 rfl Try.underlying93 info96 rfl (by decide) (by omega) u6 x6_1 (⟨t340,t341⟩:S96) [.int .i64 t340,.int .i64 t341] (fun k_=>k_ ≠ gb343) (fun _=>False) rfl (by first | (go_simp;done) | (go_simp;rfl)) ?aP (fun _ hk=>hk.elim) ?aF ?aO ?aB ?aS ?aL ?_;(case aP=>exact k96_mkM _ _ _ (⟨t340,t341⟩:S96));(case aB=>exact (by repeat (first | (with_reducible first | exact HB.out | apply below_alloc | apply pw_below_drewN | apply below_drew1 | refine below_set ?_ GE338.out | refine below_set ?_ GE343.out) | exact HB.out)));(case aF=>exact (fun k_ hk=>Kd.freshB (g:=gb343) (o:=.cells #[.int .i64 t340,.int .i64 t341] 96 (0,0)) (by (with_reducible repeat (first | refine blk_drewN ?_ _ | refine blk_drew ?_ | refine blk_alloc ?_ _));refine blk_put (cs:=#[.int .i64 t340,.int .i64 0]) ?_ 1 _ rfl;(with_reducible repeat (first | refine blk_drewN ?_ _ | refine blk_drew ?_ | refine blk_alloc ?_ _));refine blk_put (cs:=#[.int .i64 0,.int .i64 0]) ?_ 0 _ rfl;(with_reducible repeat (first | refine blk_drewN ?_ _ | refine blk_drew ?_ | refine blk_alloc ?_ _));exact BK343.out) k_ hk));(case aO=>exact (by (with_reducible repeat (first | apply Kd.R_alloc | apply Kd.R_drewN | apply Kd.R_drew));exact Kd.R_mono (Kd.R_far (p:=⟨gb343,1,none⟩) (Kd.R_far (p:=⟨gb343,0,none⟩) (Kd.R_mono HO_6.out (fun k_ hk=>(⟨hk,hk.2⟩:_ ∧ k_ ≠ gb343))) (fun _ hk=>hk.2) (.int .i64 t340)) (fun _ hk=>hk.2) (.int .i64 t341)) (fun _ hk=>hk.1.2)));(case aS=>exact (below_size (by repeat (first | (with_reducible first | exact HB.out | apply below_alloc | apply pw_below_drewN | apply below_drew1 | refine below_set ?_ GE338.out | refine below_set ?_ GE343.out) | exact HB.out))));(case aL=>have:=LMc16.out;omega);intro v345 w22 ho hb hg hat;rw [← Ny344.out] at ho;have n0_:=Aside0.mk (blk_grown (g:=gb338) (o:=.cells #[.int .i64 a0_0,.string a0_1] 81 (0,0)) (by (with_reducible repeat (first | refine blk_drewN ?_ _ | refine blk_drew ?_ | refine blk_alloc ?_ _));refine blk_far ?_ NB338_343.out _;(with_reducible repeat (first | refine blk_drewN ?_ _ | refine blk_drew ?_ | refine blk_alloc ?_ _));refine blk_far ?_ NB338_343.out _;(with_reducible repeat (first | refine blk_drewN ?_ _ | refine blk_drew ?_ | refine blk_alloc ?_ _));exact BK338.out) hg (Kd.R_ne HO_6.out BK338.out (by decide)));have n1_:=Aside0.mk (blk_grown (g:=gb343) (o:=.cells #[.int .i64 t340,.int .i64 t341] 96 (0,0)) (by (with_reducible repeat (first | refine blk_drewN ?_ _ | refine blk_drew ?_ | refine blk_alloc ?_ _));refine blk_put (cs:=#[.int .i64 t340,.int .i64 0]) ?_ 1 _ rfl;(with_reducible repeat (first | refine blk_drewN ?_ _ | refine blk_drew ?_ | refine blk_alloc ?_ _));refine blk_put (cs:=#[.int .i64 0,.int .i64 0]) ?_ 0 _ rfl;(with_reducible repeat (first | refine blk_drewN ?_ _ | refine blk_drew ?_ | refine blk_alloc ?_ _));exact BK343.out) hg (Kd.R_away HO_6.out (fun _ hk=>hk.2)));have n2_:=Aside0.mk (hb);have n3_:=Aside0.mk (ho);clear BK338;clear BK343;clear HB;clear HO_6;have BK338:=n0_;have BK343:=n1_;have HB:=n2_;have HO346:=n3_;clear n0_ n1_ n2_ n3_;clear ho hb hg hat))
   go_roundg k1
   case measure=>have:=HK1.out;omega
   case rel=>exact ⟨(y344),(wrap64 (x13_1 + 1)),(by first | rfl | (simp;done) | (simp [*];done)),H',⟨by have:=HK1.out;omega⟩,⟨by (with_reducible repeat (first | apply Kd.R_alloc | apply Kd.R_drewN | apply Kd.R_drew));exact Kd.R_mono HO346.out (fun _ hk=>trivial)⟩,⟨by (with_reducible repeat (first | refine blk_drewN ?_ _ | refine blk_drew ?_ | refine blk_alloc ?_ _));exact BK338.out⟩,⟨by repeat (first | (with_reducible first | exact HB.out | apply below_alloc | apply pw_below_drewN | apply below_drew1 | refine below_set ?_ GE338.out | refine below_set ?_ GE343.out) | exact HB.out)⟩⟩
def card_Check.f (k:Nat) (a0:ByteArray) (l1:List ByteArray):Option (Int):=(card_newFunction.f a0).bind fun bt347=>(if bt347.2.2 = true then ((card_function_cubes.f k bt347.1 bt347.2.1 l1).bind fun bt351=>(if bt351.2 = true then ((card_function_isCover.f bt347.1 bt347.2.1 bt351.1).bind fun t355=>(if t355 = true then (some 0) else (some 10))) else (some 2))) else (some 2))
theorem card_Check.mono:∀ a0 a1 k,LeO (card_Check.f k a0 a1) (card_Check.f (k + 1) a0 a1):=by
 intro a0 a1 k
 unfold card_Check.f
 repeat' first
   | (with_reducible exact card_function_cubes.mono _ _ _ _)
   | (with_reducible exact LeO.refl _)
   | (with_reducible exact LeO.none _)
   | (with_reducible refine LeO.ite ?_ ?_)
   | (with_reducible refine LeO.bind ?_ (fun _=>?_))
   | exact card_function_cubes.mono _ _ _ _
   | exact LeO.none _
   | refine LeO.ite ?_ ?_
   | refine LeO.bind ?_ (fun _=>?_)
theorem card_Check.calls (k:Nat) (a0:ByteArray) (A1:Option Addr) (c1:Nat) (l1:List ByteArray) (r:Int) (w:World) (hr1:Kd.C Kd.string w A1 l1.length l1) (hc1:l1.length ≤ c1) (h:card_Check.f k a0 l1 = some r) :
  Calls Try.prog 43 #[.string a0,.slice A1 l1.length c1] w fun e w'=>e = .returned (.int .i64 r) ∧ Below w.heap.size w w':=by
 have hu81:=Try.underlying81
 have HR1:=Aside0.mk hr1
 have HC1:=Aside0.mk hc1
 clear hr1 hc1
 have HB:=Aside0.mk (Below.refl w.heap.size w)
 have H:((card_newFunction.f a0).bind fun bt347=>(if bt347.2.2 = true then ((card_function_cubes.f k bt347.1 bt347.2.1 l1).bind fun bt351=>(if bt351.2 = true then ((card_function_isCover.f bt347.1 bt347.2.1 bt351.1).bind fun t355=>(if t355 = true then (some 0) else (some 10))) else (some 2))) else (some 2))) = some r:=h
 clear h
 replace H:=Option.bind_eq_some_iff.mp H
 obtain ⟨⟨t347,t348,t349⟩,A30,H⟩:=H
 replace H:(if t349 = true then ((card_function_cubes.f k t347 t348 l1).bind fun bt351=>(if bt351.2 = true then ((card_function_isCover.f t347 t348 bt351.1).bind fun t355=>(if t355 = true then (some 0) else (some 10))) else (some 2))) else (some 2)) = some r:=H
 have A3:=Aside0.mk A30
 clear A30
 by_cases c4:t349 = true
 case neg =>
  replace c4:=Bool.eq_false_iff.mpr c4
  subst c4
  have H1:(some 2) = some r:=by rw [if_neg (show ¬ (false = true) by decide)] at H;exact H
  clear H
  have H:=H1
  clear H1
  obtain rfl:=Option.some.inj H
  go_enter Try.func43,Try.ntmps43
  go_wp2_with (first | ((with_reducible refine gate_callee (f:=65) rfl ?_);refine goesL_ (some 10) rfl rfl Try.func65 (by kernel_rfl) rfl #[.string a0] rfl (by (try simp only [List.map_toArray,List.map_cons,List.map_nil]);first | done | rfl | (simp only [List.length_drop,List.length_take];rfl)) ?_;(with_reducible refine (card_newFunction.calls a0 t347 t348 false _ A3.out).mono ?_);rintro e w27 ⟨rfl,hb⟩;refine ⟨_,rfl,?_⟩;have n0_:=Aside0.mk (below_step (by repeat (first | (with_reducible first | exact HB.out | apply below_alloc | apply pw_below_drewN | apply below_drew1) | exact HB.out)) hb);clear HB;have HB:=n0_;clear n0_;(try clear hb)) | ((with_reducible refine gate_dst (N:=5) rfl ?_);refine box_event ?hg (N:=5) ?hd (cs:=#[.int .i64 0,.string (⟨#[]⟩:ByteArray)]) (t:=81) ?hr ?_;(case hd=>rfl);(case hg=>rfl);(case hr=>first | (go_simp;done) | (go_simp;rfl));intro gb350 hg w28 hbox hb;have n0_:=Aside0.mk (below_step (by repeat (first | (with_reducible first | exact HB.out | apply below_alloc | apply pw_below_drewN | apply below_drew1) | exact HB.out)) hb);have n1_:=Aside0.mk (hbox);have n2_:=Aside0.mk ((by rw [hg];exact (below_size (by repeat (first | (with_reducible first | exact HB.out | apply below_alloc | apply pw_below_drewN | apply below_drew1) | exact HB.out))):w.heap.size ≤ gb350));have n3_:=Aside0.mk ((by rw [hg];exact (below_size (by repeat (first | (with_reducible first | exact HB.out | apply below_alloc | apply pw_below_drewN | apply below_drew1) | exact HB.out))):w.heap.size ≤ gb350));clear HB;have HB:=n0_;have BK350:=n1_;have GW350:=n2_;have GE350:=n3_;clear n0_ n1_ n2_ n3_;clear hb hbox hg;have hcz29_0:w28.cell? ⟨gb350,0,none⟩ = some (.int .i64 0):=(blk_cell BK350.out 0).trans rfl;have hcz29_1:w28.cell? ⟨gb350,1,none⟩ = some (.string (⟨#[]⟩:ByteArray)):=(blk_cell BK350.out 1).trans rfl;have hfz29_0:=blk_frozen BK350.out 0;have hfz29_1:=blk_frozen BK350.out 1))
  go_ret
  exact ⟨by first | rfl | (simp [errW_none,errW_some] <;> rfl) | (simp [*,errW_none,errW_some] <;> rfl),by repeat (first | (with_reducible first | exact HB.out | apply below_alloc | apply pw_below_drewN | apply below_drew1 | refine below_set ?_ GE350.out) | exact HB.out)⟩
 subst c4
 have H1:((card_function_cubes.f k t347 t348 l1).bind fun bt351=>(if bt351.2 = true then ((card_function_isCover.f t347 t348 bt351.1).bind fun t355=>(if t355 = true then (some 0) else (some 10))) else (some 2))) = some r:=by rw [if_pos rfl] at H;exact H
 clear H
 have H:=H1
 clear H1
 replace H:=Option.bind_eq_some_iff.mp H
 obtain ⟨⟨t351,t354⟩,A50,H⟩:=H
 replace H:(if t354 = true then ((card_function_isCover.f t347 t348 t351).bind fun t355=>(if t355 = true then (some 0) else (some 10))) else (some 2)) = some r:=H
 have A5:=Aside0.mk A50
 clear A50
 by_cases c6:t354 = true
 case neg =>
  replace c6:=Bool.eq_false_iff.mpr c6
  subst c6
  have H1:(some 2) = some r:=by rw [if_neg (show ¬ (false = true) by decide)] at H;exact H
  clear H
  have H:=H1
  clear H1
  obtain rfl:=Option.some.inj H
  go_enter Try.func43,Try.ntmps43
  go_wp2_with (first | ((with_reducible refine gate_callee (f:=65) rfl ?_);refine goesL_ (some 10) rfl rfl Try.func65 (by kernel_rfl) rfl #[.string a0] rfl (by (try simp only [List.map_toArray,List.map_cons,List.map_nil]);first | done | rfl | (simp only [List.length_drop,List.length_take];rfl)) ?_;(with_reducible refine (card_newFunction.calls a0 t347 t348 true _ A3.out).mono ?_);rintro e w23 ⟨rfl,hb⟩;refine ⟨_,rfl,?_⟩;have n0_:=Aside0.mk (below_step (by repeat (first | (with_reducible first | exact HB.out | apply below_alloc | apply pw_below_drewN | apply below_drew1) | exact HB.out)) hb);clear HB;have HB:=n0_;clear n0_;(try clear hb)) | ((with_reducible refine gate_dst (N:=5) rfl ?_);refine box_event ?hg (N:=5) ?hd (cs:=#[.int .i64 0,.string (⟨#[]⟩:ByteArray)]) (t:=81) ?hr ?_;(case hd=>rfl);(case hg=>rfl);(case hr=>first | (go_simp;done) | (go_simp;rfl));intro gb350 hg w24 hbox hb;have n0_:=Aside0.mk (below_step (by repeat (first | (with_reducible first | exact HB.out | apply below_alloc | apply pw_below_drewN | apply below_drew1) | exact HB.out)) hb);have n1_:=Aside0.mk (hbox);have n2_:=Aside0.mk ((by rw [hg];exact (below_size (by repeat (first | (with_reducible first | exact HB.out | apply below_alloc | apply pw_below_drewN | apply below_drew1) | exact HB.out))):w.heap.size ≤ gb350));have n3_:=Aside0.mk ((by rw [hg];exact (below_size (by repeat (first | (with_reducible first | exact HB.out | apply below_alloc | apply pw_below_drewN | apply below_drew1) | exact HB.out))):w.heap.size ≤ gb350));clear HB;have HB:=n0_;have BK350:=n1_;have GW350:=n2_;have GE350:=n3_;clear n0_ n1_ n2_ n3_;clear hb hbox hg;have hcz25_0:w24.cell? ⟨gb350,0,none⟩ = some (.int .i64 0):=(blk_cell BK350.out 0).trans rfl;have hcz25_1:w24.cell? ⟨gb350,1,none⟩ = some (.string (⟨#[]⟩:ByteArray)):=(blk_cell BK350.out 1).trans rfl;have hfz25_0:=blk_frozen BK350.out 0;have hfz25_1:=blk_frozen BK350.out 1) | ((with_reducible refine gate_callee (f:=77) rfl ?_);refine goesL_ (some 18) rfl rfl Try.func77 (by kernel_rfl) rfl #[.agg #[.int .i64 t347,.string t348],.slice A1 l1.length c1] rfl (by (try simp only [List.map_toArray,List.map_cons,List.map_nil]);first | done | rfl | (simp only [List.length_drop,List.length_take];rfl)) ?_;(with_reducible refine (card_function_cubes.calls k t347 t348 _ _ l1 t351 false _ ?side1 ?side2 A5.out).mono ?_);(case side1=>exact Kd.C_below HR1.out (by repeat (first | (with_reducible first | exact HB.out | apply below_alloc | apply pw_below_drewN | apply below_drew1 | refine below_set ?_ GE350.out) | exact HB.out)));(case side2=>exact HC1.out);rintro e w26 ⟨v352,rfl,ho0,hb⟩;refine ⟨_,rfl,?_⟩;have n0_:=Aside0.mk (Kd.R_lower ho0 (below_size (by repeat (first | (with_reducible first | exact HB.out | apply below_alloc | apply pw_below_drewN | apply below_drew1 | refine below_set ?_ GE350.out) | exact HB.out))));have n1_:=Aside0.mk (blk_below (g:=gb350) (o:=.cells #[.int .i64 t347,.string t348] 81 (0,0)) (by (with_reducible repeat (first | refine blk_drewN ?_ _ | refine blk_drew ?_ | refine blk_alloc ?_ _));refine blk_put (cs:=#[.int .i64 t347,.string (⟨#[]⟩:ByteArray)]) ?_ 1 _ rfl;(with_reducible repeat (first | refine blk_drewN ?_ _ | refine blk_drew ?_ | refine blk_alloc ?_ _));refine blk_put (cs:=#[.int .i64 0,.string (⟨#[]⟩:ByteArray)]) ?_ 0 _ rfl;(with_reducible repeat (first | refine blk_drewN ?_ _ | refine blk_drew ?_ | refine blk_alloc ?_ _));exact BK350.out) hb);have n2_:=Aside0.mk (below_step (by repeat (first | (with_reducible first | exact HB.out | apply below_alloc | apply pw_below_drewN | apply below_drew1 | refine below_set ?_ GE350.out) | exact HB.out)) hb);clear BK350;clear HB;have HO353:=n0_;have BK350:=n1_;have HB:=n2_;clear n0_ n1_ n2_;(try clear hb);(try clear ho0)))
  go_ret
  exact ⟨by first | rfl | (simp [errW_none,errW_some] <;> rfl) | (simp [*,errW_none,errW_some] <;> rfl),by repeat (first | (with_reducible first | exact HB.out | apply below_alloc | apply pw_below_drewN | apply below_drew1 | refine below_set ?_ GE350.out) | exact HB.out)⟩
 subst c6
 have H1:((card_function_isCover.f t347 t348 t351).bind fun t355=>(if t355 = true then (some 0) else (some 10))) = some r:=by rw [if_pos rfl] at H;exact H
 clear H
 have H:=H1
 clear H1
 replace H:=Option.bind_eq_some_iff.mp H
 obtain ⟨t355,A70,H⟩:=H
 replace H:(if t355 = true then (some 0) else (some 10)) = some r:=H
 have A7:=Aside0.mk A70
 clear A70
 by_cases c8:t355 = true
 ·subst c8
  have H1:(some 0) = some r:=by rw [if_pos rfl] at H;exact H
  clear H
  have H:=H1
  clear H1
  obtain rfl:=Option.some.inj H
  go_enter Try.func43,Try.ntmps43
  go_wp2_with (first | ((with_reducible refine gate_callee (f:=65) rfl ?_);refine goesL_ (some 10) rfl rfl Try.func65 (by kernel_rfl) rfl #[.string a0] rfl (by (try simp only [List.map_toArray,List.map_cons,List.map_nil]);first | done | rfl | (simp only [List.length_drop,List.length_take];rfl)) ?_;(with_reducible refine (card_newFunction.calls a0 t347 t348 true _ A3.out).mono ?_);rintro e w9 ⟨rfl,hb⟩;refine ⟨_,rfl,?_⟩;have n0_:=Aside0.mk (below_step (by repeat (first | (with_reducible first | exact HB.out | apply below_alloc | apply pw_below_drewN | apply below_drew1) | exact HB.out)) hb);clear HB;have HB:=n0_;clear n0_;(try clear hb)) | ((with_reducible refine gate_dst (N:=5) rfl ?_);refine box_event ?hg (N:=5) ?hd (cs:=#[.int .i64 0,.string (⟨#[]⟩:ByteArray)]) (t:=81) ?hr ?_;(case hd=>rfl);(case hg=>rfl);(case hr=>first | (go_simp;done) | (go_simp;rfl));intro gb350 hg w10 hbox hb;have n0_:=Aside0.mk (below_step (by repeat (first | (with_reducible first | exact HB.out | apply below_alloc | apply pw_below_drewN | apply below_drew1) | exact HB.out)) hb);have n1_:=Aside0.mk (hbox);have n2_:=Aside0.mk ((by rw [hg];exact (below_size (by repeat (first | (with_reducible first | exact HB.out | apply below_alloc | apply pw_below_drewN | apply below_drew1) | exact HB.out))):w.heap.size ≤ gb350));have n3_:=Aside0.mk ((by rw [hg];exact (below_size (by repeat (first | (with_reducible first | exact HB.out | apply below_alloc | apply pw_below_drewN | apply below_drew1) | exact HB.out))):w.heap.size ≤ gb350));clear HB;have HB:=n0_;have BK350:=n1_;have GW350:=n2_;have GE350:=n3_;clear n0_ n1_ n2_ n3_;clear hb hbox hg;have hcz11_0:w10.cell? ⟨gb350,0,none⟩ = some (.int .i64 0):=(blk_cell BK350.out 0).trans rfl;have hcz11_1:w10.cell? ⟨gb350,1,none⟩ = some (.string (⟨#[]⟩:ByteArray)):=(blk_cell BK350.out 1).trans rfl;have hfz11_0:=blk_frozen BK350.out 0;have hfz11_1:=blk_frozen BK350.out 1) | ((with_reducible refine gate_callee (f:=77) rfl ?_);refine goesL_ (some 18) rfl rfl Try.func77 (by kernel_rfl) rfl #[.agg #[.int .i64 t347,.string t348],.slice A1 l1.length c1] rfl (by (try simp only [List.map_toArray,List.map_cons,List.map_nil]);first | done | rfl | (simp only [List.length_drop,List.length_take];rfl)) ?_;(with_reducible refine (card_function_cubes.calls k t347 t348 _ _ l1 t351 true _ ?side1 ?side2 A5.out).mono ?_);(case side1=>exact Kd.C_below HR1.out (by repeat (first | (with_reducible first | exact HB.out | apply below_alloc | apply pw_below_drewN | apply below_drew1 | refine below_set ?_ GE350.out) | exact HB.out)));(case side2=>exact HC1.out);rintro e w12 ⟨v352,rfl,ho0,hb⟩;refine ⟨_,rfl,?_⟩;have n0_:=Aside0.mk (Kd.R_lower ho0 (below_size (by repeat (first | (with_reducible first | exact HB.out | apply below_alloc | apply pw_below_drewN | apply below_drew1 | refine below_set ?_ GE350.out) | exact HB.out))));have n1_:=Aside0.mk (blk_below (g:=gb350) (o:=.cells #[.int .i64 t347,.string t348] 81 (0,0)) (by (with_reducible repeat (first | refine blk_drewN ?_ _ | refine blk_drew ?_ | refine blk_alloc ?_ _));refine blk_put (cs:=#[.int .i64 t347,.string (⟨#[]⟩:ByteArray)]) ?_ 1 _ rfl;(with_reducible repeat (first | refine blk_drewN ?_ _ | refine blk_drew ?_ | refine blk_alloc ?_ _));refine blk_put (cs:=#[.int .i64 0,.string (⟨#[]⟩:ByteArray)]) ?_ 0 _ rfl;(with_reducible repeat (first | refine blk_drewN ?_ _ | refine blk_drew ?_ | refine blk_alloc ?_ _));exact BK350.out) hb);have n2_:=Aside0.mk (below_step (by repeat (first | (with_reducible first | exact HB.out | apply below_alloc | apply pw_below_drewN | apply below_drew1 | refine below_set ?_ GE350.out) | exact HB.out)) hb);clear BK350;clear HB;have HO353:=n0_;have BK350:=n1_;have HB:=n2_;clear n0_ n1_ n2_;(try clear hb);(try clear ho0);have hcz13_0:w12.cell? ⟨gb350,0,none⟩ = some (.int .i64 t347):=(blk_cell BK350.out 0).trans rfl;have hcz13_1:w12.cell? ⟨gb350,1,none⟩ = some (.string t348):=(blk_cell BK350.out 1).trans rfl;have hfz13_0:=blk_frozen BK350.out 0;have hfz13_1:=blk_frozen BK350.out 1;obtain ⟨Ao14,co14,eo14⟩:=Kd.R_slice HO353.out;subst eo14) | ((with_reducible refine gate_callee (f:=78) rfl ?_);refine goesL_ (some 27) rfl rfl Try.func78 (by kernel_rfl) rfl #[.agg #[.int .i64 t347,.string t348],.slice Ao14 t351.length co14] rfl (by (try simp only [List.map_toArray,List.map_cons,List.map_nil]);first | done | rfl | (simp only [List.length_drop,List.length_take];rfl)) ?_;(with_reducible refine (card_function_isCover.calls t347 t348 _ _ t351 true _ ?side1 ?side2 A7.out).mono ?_);(case side1=>repeat (first | exact (Kd.R_reads' HO353.out).2.2 | (with_reducible refine Kd.C_alloc ?_ _) | (with_reducible refine Kd.C_drewN ?_ _) | (with_reducible refine Kd.C_drew ?_)));(case side2=>exact (Kd.R_reads' HO353.out).2.1);rintro e w15 ⟨rfl,hb⟩;refine ⟨_,rfl,?_⟩;have n0_:=Aside0.mk (Kd.R_below (by (with_reducible repeat (first | apply Kd.R_alloc | apply Kd.R_drewN | apply Kd.R_drew));exact HO353.out) hb);have n1_:=Aside0.mk (blk_below (g:=gb350) (o:=.cells #[.int .i64 t347,.string t348] 81 (0,0)) (by (with_reducible repeat (first | refine blk_drewN ?_ _ | refine blk_drew ?_ | refine blk_alloc ?_ _));exact BK350.out) hb);have n2_:=Aside0.mk (below_step (by repeat (first | (with_reducible first | exact HB.out | apply below_alloc | apply pw_below_drewN | apply below_drew1 | refine below_set ?_ GE350.out) | exact HB.out)) hb);clear HO353;clear BK350;clear HB;have HO353:=n0_;have BK350:=n1_;have HB:=n2_;clear n0_ n1_ n2_;(try clear hb)))
  go_ret
  exact ⟨by first | rfl | (simp [errW_none,errW_some] <;> rfl) | (simp [*,errW_none,errW_some] <;> rfl),by repeat (first | (with_reducible first | exact HB.out | apply below_alloc | apply pw_below_drewN | apply below_drew1 | refine below_set ?_ GE350.out) | exact HB.out)⟩
 replace c8:=Bool.eq_false_iff.mpr c8
 subst c8
 have H1:(some 10) = some r:=by rw [if_neg (show ¬ (false = true) by decide)] at H;exact H
 clear H
 have H:=H1
 clear H1
 obtain rfl:=Option.some.inj H
 go_enter Try.func43,Try.ntmps43
 go_wp2_with (first | ((with_reducible refine gate_callee (f:=65) rfl ?_);refine goesL_ (some 10) rfl rfl Try.func65 (by kernel_rfl) rfl #[.string a0] rfl (by (try simp only [List.map_toArray,List.map_cons,List.map_nil]);first | done | rfl | (simp only [List.length_drop,List.length_take];rfl)) ?_;(with_reducible refine (card_newFunction.calls a0 t347 t348 true _ A3.out).mono ?_);rintro e w16 ⟨rfl,hb⟩;refine ⟨_,rfl,?_⟩;have n0_:=Aside0.mk (below_step (by repeat (first | (with_reducible first | exact HB.out | apply below_alloc | apply pw_below_drewN | apply below_drew1) | exact HB.out)) hb);clear HB;have HB:=n0_;clear n0_;(try clear hb)) | ((with_reducible refine gate_dst (N:=5) rfl ?_);refine box_event ?hg (N:=5) ?hd (cs:=#[.int .i64 0,.string (⟨#[]⟩:ByteArray)]) (t:=81) ?hr ?_;(case hd=>rfl);(case hg=>rfl);(case hr=>first | (go_simp;done) | (go_simp;rfl));intro gb350 hg w17 hbox hb;have n0_:=Aside0.mk (below_step (by repeat (first | (with_reducible first | exact HB.out | apply below_alloc | apply pw_below_drewN | apply below_drew1) | exact HB.out)) hb);have n1_:=Aside0.mk (hbox);have n2_:=Aside0.mk ((by rw [hg];exact (below_size (by repeat (first | (with_reducible first | exact HB.out | apply below_alloc | apply pw_below_drewN | apply below_drew1) | exact HB.out))):w.heap.size ≤ gb350));have n3_:=Aside0.mk ((by rw [hg];exact (below_size (by repeat (first | (with_reducible first | exact HB.out | apply below_alloc | apply pw_below_drewN | apply below_drew1) | exact HB.out))):w.heap.size ≤ gb350));clear HB;have HB:=n0_;have BK350:=n1_;have GW350:=n2_;have GE350:=n3_;clear n0_ n1_ n2_ n3_;clear hb hbox hg;have hcz18_0:w17.cell? ⟨gb350,0,none⟩ = some (.int .i64 0):=(blk_cell BK350.out 0).trans rfl;have hcz18_1:w17.cell? ⟨gb350,1,none⟩ = some (.string (⟨#[]⟩:ByteArray)):=(blk_cell BK350.out 1).trans rfl;have hfz18_0:=blk_frozen BK350.out 0;have hfz18_1:=blk_frozen BK350.out 1) | ((with_reducible refine gate_callee (f:=77) rfl ?_);refine goesL_ (some 18) rfl rfl Try.func77 (by kernel_rfl) rfl #[.agg #[.int .i64 t347,.string t348],.slice A1 l1.length c1] rfl (by (try simp only [List.map_toArray,List.map_cons,List.map_nil]);first | done | rfl | (simp only [List.length_drop,List.length_take];rfl)) ?_;(with_reducible refine (card_function_cubes.calls k t347 t348 _ _ l1 t351 true _ ?side1 ?side2 A5.out).mono ?_);(case side1=>exact Kd.C_below HR1.out (by repeat (first | (with_reducible first | exact HB.out | apply below_alloc | apply pw_below_drewN | apply below_drew1 | refine below_set ?_ GE350.out) | exact HB.out)));(case side2=>exact HC1.out);rintro e w19 ⟨v352,rfl,ho0,hb⟩;refine ⟨_,rfl,?_⟩;have n0_:=Aside0.mk (Kd.R_lower ho0 (below_size (by repeat (first | (with_reducible first | exact HB.out | apply below_alloc | apply pw_below_drewN | apply below_drew1 | refine below_set ?_ GE350.out) | exact HB.out))));have n1_:=Aside0.mk (blk_below (g:=gb350) (o:=.cells #[.int .i64 t347,.string t348] 81 (0,0)) (by (with_reducible repeat (first | refine blk_drewN ?_ _ | refine blk_drew ?_ | refine blk_alloc ?_ _));refine blk_put (cs:=#[.int .i64 t347,.string (⟨#[]⟩:ByteArray)]) ?_ 1 _ rfl;(with_reducible repeat (first | refine blk_drewN ?_ _ | refine blk_drew ?_ | refine blk_alloc ?_ _));refine blk_put (cs:=#[.int .i64 0,.string (⟨#[]⟩:ByteArray)]) ?_ 0 _ rfl;(with_reducible repeat (first | refine blk_drewN ?_ _ | refine blk_drew ?_ | refine blk_alloc ?_ _));exact BK350.out) hb);have n2_:=Aside0.mk (below_step (by repeat (first | (with_reducible first | exact HB.out | apply below_alloc | apply pw_below_drewN | apply below_drew1 | refine below_set ?_ GE350.out) | exact HB.out)) hb);clear BK350;clear HB;have HO353:=n0_;have BK350:=n1_;have HB:=n2_;clear n0_ n1_ n2_;(try clear hb);(try clear ho0);have hcz20_0:w19.cell? ⟨gb350,0,none⟩ = some (.int .i64 t347):=(blk_cell BK350.out 0).trans rfl;have hcz20_1:w19.cell? ⟨gb350,1,none⟩ = some (.string t348):=(blk_cell BK350.out 1).trans rfl;have hfz20_0:=blk_frozen BK350.out 0;have hfz20_1:=blk_frozen BK350.out 1;obtain ⟨Ao21,co21,eo21⟩:=Kd.R_slice HO353.out;subst eo21) | ((with_reducible refine gate_callee (f:=78) rfl ?_);refine goesL_ (some 27) rfl rfl Try.func78 (by kernel_rfl) rfl #[.agg #[.int .i64 t347,.string t348],.slice Ao21 t351.length co21] rfl (by (try simp only [List.map_toArray,List.map_cons,List.map_nil]);first | done | rfl | (simp only [List.length_drop,List.length_take];rfl)) ?_;(with_reducible refine (card_function_isCover.calls t347 t348 _ _ t351 false _ ?side1 ?side2 A7.out).mono ?_);(case side1=>repeat (first | exact (Kd.R_reads' HO353.out).2.2 | (with_reducible refine Kd.C_alloc ?_ _) | (with_reducible refine Kd.C_drewN ?_ _) | (with_reducible refine Kd.C_drew ?_)));(case side2=>exact (Kd.R_reads' HO353.out).2.1);rintro e w22 ⟨rfl,hb⟩;refine ⟨_,rfl,?_⟩;have n0_:=Aside0.mk (Kd.R_below (by (with_reducible repeat (first | apply Kd.R_alloc | apply Kd.R_drewN | apply Kd.R_drew));exact HO353.out) hb);have n1_:=Aside0.mk (blk_below (g:=gb350) (o:=.cells #[.int .i64 t347,.string t348] 81 (0,0)) (by (with_reducible repeat (first | refine blk_drewN ?_ _ | refine blk_drew ?_ | refine blk_alloc ?_ _));exact BK350.out) hb);have n2_:=Aside0.mk (below_step (by repeat (first | (with_reducible first | exact HB.out | apply below_alloc | apply pw_below_drewN | apply below_drew1 | refine below_set ?_ GE350.out) | exact HB.out)) hb);clear HO353;clear BK350;clear HB;have HO353:=n0_;have BK350:=n1_;have HB:=n2_;clear n0_ n1_ n2_;(try clear hb)))
 go_ret
 exact ⟨by first | rfl | (simp [errW_none,errW_some] <;> rfl) | (simp [*,errW_none,errW_some] <;> rfl),by repeat (first | (with_reducible first | exact HB.out | apply below_alloc | apply pw_below_drewN | apply below_drew1 | refine below_set ?_ GE350.out) | exact HB.out)⟩
mutual
def numnahref01_Covers.l0:Nat → ByteArray → List ByteArray → Int → Option (Bool)
 | 0,_,_,_=>none
 | k + 1,x0,x1,x5=>if x5 < (x0.size:Int) then (numnahref01_Covers.l1 k x0 x1 x5 false 0) else (some true)
def numnahref01_Covers.l1:Nat → ByteArray → List ByteArray → Int → Bool → Int → Option (Bool)
 | 0,_,_,_,_,_=>none
 | k + 1,x0,x1,x5,x6,x7=>if x7 < (x1.length:Int) then (if x6 = true then (numnahref01_Covers.l1 k x0 x1 x5 true (wrap64 (x7 + 1))) else (if 0 ≤ x7 then ((numnahref01_Contains.f k (rdOf ByteArray.empty x1 x7) x5).bind fun t222=>(numnahref01_Covers.l1 k x0 x1 x5 t222 (wrap64 (x7 + 1)))) else (none))) else (if 0 ≤ x5 then (if x5 < (x0.size:Int) then (if (bt x0 x5) = 48 then (if x6 = true then (some false) else (if (bt x0 x5) = 49 then (some false) else (numnahref01_Covers.l0 k x0 x1 (wrap64 (x5 + 1))))) else (if (bt x0 x5) = 49 then (if x6 = true then (numnahref01_Covers.l0 k x0 x1 (wrap64 (x5 + 1))) else (some false)) else (numnahref01_Covers.l0 k x0 x1 (wrap64 (x5 + 1))))) else (none)) else (none))
end
def numnahref01_Covers.f (k:Nat) (a0:ByteArray) (l1:List ByteArray):Option (Bool):=numnahref01_Covers.l0 k a0 l1 0
theorem numnahref01_Covers.mono_l:∀ k,(∀ y0 y1 y2,LeO (numnahref01_Covers.l0 k y0 y1 y2) (numnahref01_Covers.l0 (k + 1) y0 y1 y2)) ∧ (∀ y0 y1 y2 y3 y4,LeO (numnahref01_Covers.l1 k y0 y1 y2 y3 y4) (numnahref01_Covers.l1 (k + 1) y0 y1 y2 y3 y4))
 | 0=>⟨fun _ _ _ r h=>by simp [numnahref01_Covers.l0] at h,fun _ _ _ _ _ r h=>by simp [numnahref01_Covers.l1] at h⟩
 | k + 1=>by
  obtain ⟨ih0,ih1⟩:=numnahref01_Covers.mono_l k
  refine ⟨?_,?_⟩
  ·intro y0 y1 y2
   unfold numnahref01_Covers.l0
   repeat' first
   | (with_reducible exact ih0 _ _ _)
   | (with_reducible exact ih1 _ _ _ _ _)
   | (with_reducible exact numnahref01_Contains.mono _ _ _)
   | (with_reducible exact LeO.refl _)
   | (with_reducible exact LeO.none _)
   | (with_reducible refine LeO.ite ?_ ?_)
   | (with_reducible refine LeO.bind ?_ (fun _=>?_))
   | exact ih0 _ _ _
   | exact ih1 _ _ _ _ _
   | exact numnahref01_Contains.mono _ _ _
   | exact LeO.none _
   | refine LeO.ite ?_ ?_
   | refine LeO.bind ?_ (fun _=>?_)
  intro y0 y1 y2 y3 y4
  unfold numnahref01_Covers.l1
  repeat' first
  | (with_reducible exact ih0 _ _ _)
  | (with_reducible exact ih1 _ _ _ _ _)
  | (with_reducible exact numnahref01_Contains.mono _ _ _)
  | (with_reducible exact LeO.refl _)
  | (with_reducible exact LeO.none _)
  | (with_reducible refine LeO.ite ?_ ?_)
  | (with_reducible refine LeO.bind ?_ (fun _=>?_))
  | exact ih0 _ _ _
  | exact ih1 _ _ _ _ _
  | exact numnahref01_Contains.mono _ _ _
  | exact LeO.none _
  | refine LeO.ite ?_ ?_
  | refine LeO.bind ?_ (fun _=>?_)
theorem numnahref01_Covers.mono:∀ a0 a1 k,LeO (numnahref01_Covers.f k a0 a1) (numnahref01_Covers.f (k + 1) a0 a1):=by
 intro a0 a1 k
 obtain ⟨ih0,ih1⟩:=numnahref01_Covers.mono_l k
 unfold numnahref01_Covers.f
 repeat' first
   | (with_reducible exact ih0 _ _ _)
   | (with_reducible exact ih1 _ _ _ _ _)
   | (with_reducible exact numnahref01_Contains.mono _ _ _)
   | (with_reducible exact LeO.refl _)
   | (with_reducible exact LeO.none _)
   | (with_reducible refine LeO.ite ?_ ?_)
   | (with_reducible refine LeO.bind ?_ (fun _=>?_))
   | exact ih0 _ _ _
   | exact ih1 _ _ _ _ _
   | exact numnahref01_Contains.mono _ _ _
   | exact LeO.none _
   | refine LeO.ite ?_ ?_
   | refine LeO.bind ?_ (fun _=>?_)
theorem numnahref01_Covers.calls (k:Nat) (a0:ByteArray) (A1:Option Addr) (c1:Nat) (l1:List ByteArray) (r:Bool) (w:World) (hr1:Kd.C Kd.string w A1 l1.length l1) (hc1:l1.length ≤ c1) (h:numnahref01_Covers.f k a0 l1 = some r) :
  Calls Try.prog 33 #[.string a0,.slice A1 l1.length c1] w fun e w'=>e = .returned (.bool r) ∧ Drawn0 w w':=by
 have HR1:=Aside0.mk hr1
 have HC1:=Aside0.mk hc1
 clear hr1 hc1
 have H:(numnahref01_Covers.l0 k a0 l1 0) = some r:=h
 clear h
 have H':=Aside0.mk H
 clear H
 go_enter Try.func33,Try.ntmps33
 go_wp2
 go_loopg [5] k (fun kq v5 w'=>∃ (x5_1:Int),v5 = .int .i64 x5_1 ∧ Aside0 (numnahref01_Covers.l0 kq a0 l1 x5_1 = some r) ∧ Aside0 (kq ≤ k) ∧ Drawn0 w w')
 case atStart=>exact ⟨(0),(by first | rfl | (simp;done) | (simp [*];done)),H',⟨Nat.le_refl _⟩,by repeat (first | exact Drawn0.refl _ | apply Drawn0.step)⟩
 case round =>
  clear H'
  try clear c1
  try clear p2
  obtain ⟨x5_1,rfl,HA,HK1,⟨m1,rfl⟩⟩:=hrel
  cases gk with
  | zero=>exact absurd HA.out (by simp [numnahref01_Covers.l0])
  | succ k1 =>
   have H:=HA.out
   clear HA
   simp only [numnahref01_Covers.l0] at H
   by_cases c3:x5_1 < (a0.size:Int)
   case neg =>
    rw [if_neg c3] at H
    have c3b0:decide (x5_1 < (a0.size:Int)) = false:=decide_eq_false c3
    clear c3
    obtain rfl:=Option.some.inj H
    go_wp2
    go_ret
    exact ⟨by first | rfl | (simp;done) | (simp [*];done),by repeat (first | exact Drawn0.refl _ | apply Drawn0.step)⟩
   rw [if_pos c3] at H
   have c3b0:decide (x5_1 < (a0.size:Int)) = true:=decide_eq_true c3
   clear c3
   have H':=Aside0.mk H
   clear H
   go_wp2
   go_loopg [6,7] k1 (fun kq v6 v7 w'=>∃ (x6_2:Bool) (x7_2:Int),v6 = .bool x6_2 ∧ v7 = .int .i64 x7_2 ∧ Aside0 (numnahref01_Covers.l1 kq a0 l1 x5_1 x6_2 x7_2 = some r) ∧ Aside0 (kq ≤ k1) ∧ Drawn0 w w')
   case atStart=>exact ⟨(false),(0),(by first | rfl | (simp;done) | (simp [*];done)),(by first | rfl | (simp;done) | (simp [*];done)),H',⟨Nat.le_refl _⟩,by repeat (first | exact Drawn0.refl _ | apply Drawn0.step)⟩
   case round =>
    clear H'
    try clear c1
    try clear p2
    try clear c3
    try clear c3b0
    try clear p2
    obtain ⟨x6_2,x7_2,rfl,rfl,HA,HK2,⟨m2,rfl⟩⟩:=hrel
    cases gk with
    | zero=>exact absurd HA.out (by simp [numnahref01_Covers.l1])
    | succ k2 =>
     have H:=HA.out
     clear HA
     simp only [numnahref01_Covers.l1] at H
     by_cases c4:x7_2 < (l1.length:Int)
     ·rw [if_pos c4] at H
      have c4b0:decide (x7_2 < (l1.length:Int)) = true:=decide_eq_true c4
      clear c4
      by_cases c5:x6_2 = true
      ·subst c5
       have H1:(numnahref01_Covers.l1 k2 a0 l1 x5_1 true (wrap64 (x7_2 + 1))) = some r:=by rw [if_pos rfl] at H;exact H
       clear H
       have H:=H1
       clear H1
       have H':=Aside0.mk H
       clear H
       go_wp2
       go_roundg k2
       case measure=>have:=HK1.out;have:=HK2.out;omega
       case rel=>exact ⟨(true),(wrap64 (x7_2 + 1)),(by first | rfl | (simp;done) | (simp [*];done)),(by first | rfl | (simp;done) | (simp [*];done)),H',⟨by have:=HK1.out;have:=HK2.out;omega⟩,by repeat (first | exact Drawn0.refl _ | apply Drawn0.step)⟩
      replace c5:=Bool.eq_false_iff.mpr c5
      subst c5
      have H1:(if 0 ≤ x7_2 then ((numnahref01_Contains.f k2 (rdOf ByteArray.empty l1 x7_2) x5_1).bind fun t222=>(numnahref01_Covers.l1 k2 a0 l1 x5_1 t222 (wrap64 (x7_2 + 1)))) else (none)) = some r:=by rw [if_neg (show ¬ (false = true) by decide)] at H;exact H
      clear H
      have H:=H1
      clear H1
      by_cases c6:0 ≤ x7_2
      case neg =>
       rw [if_neg c6] at H
       exact absurd H (by simp)
      rw [if_pos c6] at H
      have c6b0:decide (0 ≤ x7_2) = true:=decide_eq_true c6
      clear c6
      replace H:=Option.bind_eq_some_iff.mp H
      obtain ⟨t222,A70,H⟩:=H
      replace H:(numnahref01_Covers.l1 k2 a0 l1 x5_1 t222 (wrap64 (x7_2 + 1))) = some r:=H
      have A7:=Aside0.mk A70
      clear A70
      have H':=Aside0.mk H
      clear H
      have p221:0 ≤ (x7_2:Int):=of_decide_eq_true (by first | (with_reducible assumption) | assumption)
      have q221:x7_2 < (l1.length:Int):=of_decide_eq_true (by first | (with_reducible assumption) | assumption)
      obtain ⟨ad221,e221,hx221_0⟩:=Kd.at_string HR1.out x7_2 p221 q221
      cases e221
      replace p221:=eq_true p221
      replace q221:=eq_true q221
      go_wp2_with (first | (go_at_call 68;(with_reducible refine (numnahref01_Contains.calls k2 (rdOf ByteArray.empty l1 x7_2) x5_1 t222 _ A7.out).mono ?_);rintro e w' ⟨rfl,⟨nd,rfl⟩⟩))
      go_roundg k2
      case measure=>have:=HK1.out;have:=HK2.out;omega
      case rel=>exact ⟨(t222),(wrap64 (x7_2 + 1)),(by first | rfl | (simp;done) | (simp [*];done)),(by first | rfl | (simp;done) | (simp [*];done)),H',⟨by have:=HK1.out;have:=HK2.out;omega⟩,by repeat (first | exact Drawn0.refl _ | apply Drawn0.step)⟩
     rw [if_neg c4] at H
     have c4b0:decide (x7_2 < (l1.length:Int)) = false:=decide_eq_false c4
     clear c4
     by_cases c8:0 ≤ x5_1
     case neg =>
      rw [if_neg c8] at H
      exact absurd H (by simp)
     rw [if_pos c8] at H
     have c8b0:decide (0 ≤ x5_1) = true:=decide_eq_true c8
     clear c8
     by_cases c9:x5_1 < (a0.size:Int)
     case neg =>
      rw [if_neg c9] at H
      exact absurd H (by simp)
     rw [if_pos c9] at H
     have c9b0:decide (x5_1 < (a0.size:Int)) = true:=decide_eq_true c9
     clear c9
     by_cases c11:(bt a0 x5_1) = 48
     ·rw [if_pos c11] at H
      have c11b0:((bt a0 x5_1) == 48) = true:=beq_iff_eq.mpr c11
      have c11b1:((bt a0 x5_1) != 48) = false:=bne_eq_false_iff_eq.mpr c11
      clear c11
      by_cases c12:x6_2 = true
      ·subst c12
       have H1:(some false) = some r:=by rw [if_pos rfl] at H;exact H
       clear H
       have H:=H1
       clear H1
       obtain rfl:=Option.some.inj H
       have p10:0 ≤ (x5_1:Int):=of_decide_eq_true (by first | (with_reducible assumption) | assumption)
       have q10:x5_1 < (a0.size:Int):=of_decide_eq_true (by first | (with_reducible assumption) | assumption)
       have hx10:=bt_at a0 x5_1
       replace p10:=eq_true p10
       replace q10:=eq_true q10
       go_wp2
       go_ret
       exact ⟨by first | rfl | (simp;done) | (simp [*];done),by repeat (first | exact Drawn0.refl _ | apply Drawn0.step)⟩
      replace c12:=Bool.eq_false_iff.mpr c12
      subst c12
      have H1:(if (bt a0 x5_1) = 49 then (some false) else (numnahref01_Covers.l0 k2 a0 l1 (wrap64 (x5_1 + 1)))) = some r:=by rw [if_neg (show ¬ (false = true) by decide)] at H;exact H
      clear H
      have H:=H1
      clear H1
      by_cases c14:(bt a0 x5_1) = 49
      ·rw [if_pos c14] at H
       have c14b0:((bt a0 x5_1) == 49) = true:=beq_iff_eq.mpr c14
       have c14b1:((bt a0 x5_1) != 49) = false:=bne_eq_false_iff_eq.mpr c14
       clear c14
       obtain rfl:=Option.some.inj H
       have p10:0 ≤ (x5_1:Int):=of_decide_eq_true (by first | (with_reducible assumption) | assumption)
       have q10:x5_1 < (a0.size:Int):=of_decide_eq_true (by first | (with_reducible assumption) | assumption)
       have hx10:=bt_at a0 x5_1
       replace p10:=eq_true p10
       replace q10:=eq_true q10
       have p13:0 ≤ (x5_1:Int):=of_decide_eq_true (by first | (with_reducible assumption) | assumption)
       have q13:x5_1 < (a0.size:Int):=of_decide_eq_true (by first | (with_reducible assumption) | assumption)
       have hx13:=bt_at a0 x5_1
       replace p13:=eq_true p13
       replace q13:=eq_true q13
       go_wp2
       go_ret
       exact ⟨by first | rfl | (simp;done) | (simp [*];done),by repeat (first | exact Drawn0.refl _ | apply Drawn0.step)⟩
      rw [if_neg c14] at H
      have c14b0:((bt a0 x5_1) == 49) = false:=beq_eq_false_iff_ne.mpr c14
      have c14b1:((bt a0 x5_1) != 49) = true:=bne_iff_ne.mpr c14
      have H':=Aside0.mk H
      clear H
      have p10:0 ≤ (x5_1:Int):=of_decide_eq_true (by first | (with_reducible assumption) | assumption)
      have q10:x5_1 < (a0.size:Int):=of_decide_eq_true (by first | (with_reducible assumption) | assumption)
      have hx10:=bt_at a0 x5_1
      replace p10:=eq_true p10
      replace q10:=eq_true q10
      have p13:0 ≤ (x5_1:Int):=of_decide_eq_true (by first | (with_reducible assumption) | assumption)
      have q13:x5_1 < (a0.size:Int):=of_decide_eq_true (by first | (with_reducible assumption) | assumption)
      have hx13:=bt_at a0 x5_1
      replace p13:=eq_true p13
      replace q13:=eq_true q13
      go_wp2
      go_roundg k2
      case measure=>have:=HK1.out;have:=HK2.out;omega
      case rel=>exact ⟨(wrap64 (x5_1 + 1)),(by first | rfl | (simp;done) | (simp [*];done)),H',⟨by have:=HK1.out;have:=HK2.out;omega⟩,by repeat (first | exact Drawn0.refl _ | apply Drawn0.step)⟩
     rw [if_neg c11] at H
     have c11b0:((bt a0 x5_1) == 48) = false:=beq_eq_false_iff_ne.mpr c11
     have c11b1:((bt a0 x5_1) != 48) = true:=bne_iff_ne.mpr c11
     by_cases c16:(bt a0 x5_1) = 49
     case neg =>
      rw [if_neg c16] at H
      have c16b0:((bt a0 x5_1) == 49) = false:=beq_eq_false_iff_ne.mpr c16
      have c16b1:((bt a0 x5_1) != 49) = true:=bne_iff_ne.mpr c16
      have H':=Aside0.mk H
      clear H
      have p10:0 ≤ (x5_1:Int):=of_decide_eq_true (by first | (with_reducible assumption) | assumption)
      have q10:x5_1 < (a0.size:Int):=of_decide_eq_true (by first | (with_reducible assumption) | assumption)
      have hx10:=bt_at a0 x5_1
      replace p10:=eq_true p10
      replace q10:=eq_true q10
      have p15:0 ≤ (x5_1:Int):=of_decide_eq_true (by first | (with_reducible assumption) | assumption)
      have q15:x5_1 < (a0.size:Int):=of_decide_eq_true (by first | (with_reducible assumption) | assumption)
      have hx15:=bt_at a0 x5_1
      replace p15:=eq_true p15
      replace q15:=eq_true q15
      go_wp2
      go_roundg k2
      case measure=>have:=HK1.out;have:=HK2.out;omega
      case rel=>exact ⟨(wrap64 (x5_1 + 1)),(by first | rfl | (simp;done) | (simp [*];done)),H',⟨by have:=HK1.out;have:=HK2.out;omega⟩,by repeat (first | exact Drawn0.refl _ | apply Drawn0.step)⟩
     rw [if_pos c16] at H
     have c16b0:((bt a0 x5_1) == 49) = true:=beq_iff_eq.mpr c16
     have c16b1:((bt a0 x5_1) != 49) = false:=bne_eq_false_iff_eq.mpr c16
     clear c16
     by_cases c17:x6_2 = true
     case neg =>
      replace c17:=Bool.eq_false_iff.mpr c17
      subst c17
      have H1:(some false) = some r:=by rw [if_neg (show ¬ (false = true) by decide)] at H;exact H
      clear H
      have H:=H1
      clear H1
      obtain rfl:=Option.some.inj H
      have p10:0 ≤ (x5_1:Int):=of_decide_eq_true (by first | (with_reducible assumption) | assumption)
      have q10:x5_1 < (a0.size:Int):=of_decide_eq_true (by first | (with_reducible assumption) | assumption)
      have hx10:=bt_at a0 x5_1
      replace p10:=eq_true p10
      replace q10:=eq_true q10
      have p15:0 ≤ (x5_1:Int):=of_decide_eq_true (by first | (with_reducible assumption) | assumption)
      have q15:x5_1 < (a0.size:Int):=of_decide_eq_true (by first | (with_reducible assumption) | assumption)
      have hx15:=bt_at a0 x5_1
      replace p15:=eq_true p15
      replace q15:=eq_true q15
      go_wp2
      go_ret
      exact ⟨by first | rfl | (simp;done) | (simp [*];done),by repeat (first | exact Drawn0.refl _ | apply Drawn0.step)⟩
     subst c17
     have H1:(numnahref01_Covers.l0 k2 a0 l1 (wrap64 (x5_1 + 1))) = some r:=by rw [if_pos rfl] at H;exact H
     clear H
     have H:=H1
     clear H1
     have H':=Aside0.mk H
     clear H
     have p10:0 ≤ (x5_1:Int):=of_decide_eq_true (by first | (with_reducible assumption) | assumption)
     have q10:x5_1 < (a0.size:Int):=of_decide_eq_true (by first | (with_reducible assumption) | assumption)
     have hx10:=bt_at a0 x5_1
     replace p10:=eq_true p10
     replace q10:=eq_true q10
     have p15:0 ≤ (x5_1:Int):=of_decide_eq_true (by first | (with_reducible assumption) | assumption)
     have q15:x5_1 < (a0.size:Int):=of_decide_eq_true (by first | (with_reducible assumption) | assumption)
     have hx15:=bt_at a0 x5_1
     replace p15:=eq_true p15
     replace q15:=eq_true q15
     go_wp2
     go_roundg k2
     case measure=>have:=HK1.out;have:=HK2.out;omega
     case rel=>exact ⟨(wrap64 (x5_1 + 1)),(by first | rfl | (simp;done) | (simp [*];done)),H',⟨by have:=HK1.out;have:=HK2.out;omega⟩,by repeat (first | exact Drawn0.refl _ | apply Drawn0.step)⟩
end Go.Proofs.Ythpahlkhiknofaa.G
set_option linter.unusedSectionVars false
namespace Go.Proofs.Ythpahlkhiknofaa.P
open Go Go.RowKit Go.Proofs.Ythpahlkhiknofaa.M Go.Proofs.Ythpahlkhiknofaa.G Go.Proofs.Ythpahlkhiknofaa.H
open Go.Proofs.YthpahlkhiknofaaW.PrintWords Go.Proofs.YthpahlkhiknofaaW.PrintMore
def cubeS (c:ByteArray):S96:=⟨(careN c c.size:Int),(valN c c.size:Int)⟩
def isCn (n:Nat) (c:ByteArray):Bool:=okC c && (c.size == n)
def validB (n:Nat) (l:List ByteArray):Bool:=l.all (isCn n) && decide (l.length ≤ 32)
theorem rdS {l:List ByteArray} {i:Nat} (h:i < l.length):rdOf ByteArray.empty l (i:Int) = l[i]:=by unfold rdOf;simp [h]
theorem newC_ok {c:ByteArray} {n:Nat} (h1:1 ≤ n) (h5:n ≤ 5):((newC c).2.2 = true ∧ c.size = n) ↔ isCn n c = true:=by
  unfold newC isCn
  rw [show ((okC c && c.size == n) = true) = (okC c = true ∧ c.size = n) by rw [Bool.and_eq_true,beq_iff_eq]]
  constructor
  · rintro ⟨h,hs⟩
    refine ⟨?_,hs⟩
    cases ho:okC c with
    | true=>rfl
    | false=>rw [ho] at h;simp at h
  · rintro ⟨ho,hs⟩
    refine ⟨?_,hs⟩
    rw [ho,decide_eq_true (show c.size ≤ 5 by omega)]
    simp only [Bool.and_self,if_true]
    exact decide_eq_true (by omega)
theorem newC_val {c:ByteArray} {n:Nat} (h5:n ≤ 5) (h:isCn n c = true):(⟨(newC c).1,(newC c).2.1⟩:S96) = cubeS c:=by
  unfold isCn at h
  rw [Bool.and_eq_true,beq_iff_eq] at h
  unfold newC cubeS
  rw [h.1,decide_eq_true (show c.size ≤ 5 by omega)]
  rfl
section
variable {n:Nat} (h1:1 ≤ n) (h5:n ≤ 5) (s:ByteArray)
include h1 h5
theorem cubes_l0 {l:List ByteArray} (hl:l.length ≤ 1000) (hs:∀ c ∈ l,c.size ≤ 40):∀ d i,i + d = l.length → (i ≠ 0 → l.length ≤ 32) → Ev (fun k=>card_function_cubes.l0 k l ((l.take i).map cubeS) l (l.length:Int) (i:Int) (n:Int) s) (if ((l.drop i).all (isCn n) && decide (l.length ≤ 32)) = true then (l.map cubeS,true) else ([],false)):=by
  intro d
  induction d with
  | zero =>
    intro i hi h0
    have hle:l.length ≤ 32:=by
      by_cases e:i = 0
      · omega
      · exact h0 e
    rw [List.take_of_length_le (by omega),List.drop_eq_nil_of_le (by omega),decide_eq_true hle]
    refine Ev.step (f:=fun _=>some (l.map cubeS,true)) (fun k=>?_) (Ev.now _)
    rw [card_function_cubes.l0,if_neg (by omega)]
  | succ d ih =>
    intro i hi h0
    have hil:i < l.length:=by omega
    have hc:=hs _ (List.getElem_mem hil)
    rw [List.drop_eq_getElem_cons hil,List.all_cons]
    refine Ev.step (fun k=>by rw [card_function_cubes.l0,if_pos (by omega),if_pos (by omega),if_pos (by omega),rdS hil,wrap_succ (by omega)]) (Ev.bind (ev_newCube hc) ?_)
    by_cases ho:isCn n l[i] = true
    · obtain ⟨a,b⟩:=(newC_ok h1 h5).2 ho
      rw [ho,Bool.true_and]
      refine Ev.congr (fun k=>if_pos a) (Ev.congr (fun k=>if_pos (by omega)) ?_)
      by_cases h32:l.length ≤ 32
      · refine Ev.congr (fun k=>if_neg (by omega)) (Ev.congr (fun k=>if_pos (by rw [List.length_map,List.length_take];omega)) ?_)
        have:=ih (i + 1) (by omega) (fun _=>h32)
        rw [List.take_succ_eq_append_getElem hil,List.map_append,List.map_singleton,← newC_val h5 ho] at this
        exact this
      · rw [decide_eq_false h32,Bool.and_false]
        exact Ev.congr (fun k=>if_pos (by omega)) (Ev.now _)
    · have ho':isCn n l[i] = false:=by simpa using ho
      rw [ho',Bool.false_and,Bool.false_and]
      by_cases a:(newC l[i]).2.2 = true
      · refine Ev.congr (fun k=>if_pos a) (Ev.congr (fun k=>if_neg (fun e=>ho ((newC_ok h1 h5).1 ⟨a,by omega⟩))) (Ev.now _))
      · exact Ev.congr (fun k=>if_neg a) (Ev.now _)
theorem ev_cubes {l:List ByteArray} (hl:l.length ≤ 1000) (hs:∀ c ∈ l,c.size ≤ 40):Ev (fun k=>card_function_cubes.f k (n:Int) s l) (if validB n l = true then (l.map cubeS,true) else ([],false)):=by
  have:=cubes_l0 h1 h5 s hl hs l.length 0 (by omega) (fun h=>absurd rfl h)
  rw [List.drop_zero] at this
  exact this
end
def badS (s:ByteArray) (l:List ByteArray) (p:Nat):Bool:=(l.any (fun c=>inC c p) && (bt s (p:Int) == 48)) || (!l.any (fun c=>inC c p) && (bt s (p:Int) == 49))
def covS (s:ByteArray) (l:List ByteArray):Bool:=allF (fun p=>!badS s l p) s.size 0
theorem care_small {c:ByteArray} {n:Nat} (h5:n ≤ 5) (h:isCn n c = true):careN c c.size < 2 ^ 63:=by
  unfold isCn at h
  rw [Bool.and_eq_true,beq_iff_eq] at h
  exact Nat.lt_of_lt_of_le (careN_lt c c.size) (Nat.pow_le_pow_right (by decide) (by omega))
theorem hasB_eq {c:ByteArray} {n:Nat} (h5:n ≤ 5) (h:isCn n c = true) {p:Nat} (hp:p < 2 ^ 63):hasB (cubeS c) (p:Int) = inC c p:=by
  have hc:=care_small h5 h
  unfold isCn at h
  rw [Bool.and_eq_true] at h
  rw [← has_iff h.1]
  unfold hasB cubeS
  rw [ni_and p _ hp hc,Bool.eq_iff_iff,beq_iff_eq,beq_iff_eq]
  exact ⟨fun e=>Int.ofNat.inj e,fun e=>congrArg Int.ofNat e⟩
theorem any_eq {n:Nat} (h5:n ≤ 5) {p:Nat} (hp:p < 2 ^ 63):∀ l:List ByteArray,(∀ c ∈ l,isCn n c = true) → (l.map cubeS).any (fun x=>hasB x (p:Int)) = l.any (fun c=>inC c p)
  | [],_=>rfl
  | c :: r,h=>by rw [List.map_cons,List.any_cons,List.any_cons,hasB_eq h5 (h c (List.mem_cons_self ..)) hp,any_eq h5 hp r fun x hx=>h x (List.mem_cons_of_mem _ hx)]
theorem covB_eq {n:Nat} (h5:n ≤ 5) {s:ByteArray} (hs:s.size ≤ 1000) {l:List ByteArray} (h:∀ c ∈ l,isCn n c = true):covB s (l.map cubeS) = covS s l:=by
  unfold covB covS
  exact allF_congr fun p _ hp=>by
    have:p < 2 ^ 63:=Nat.lt_of_lt_of_le (show p < 1024 by omega) (by decide)
    unfold badP badS
    rw [any_eq h5 this l h]
section
variable {s:ByteArray} (hs:s.size ≤ 1000) {l:List ByteArray} (hl:l.length ≤ 1000) (hc:∀ c ∈ l,okC c = true ∧ c.size ≤ 40)
include hs hl hc
theorem rcov_l1 {p:Nat} (hp:p < s.size) {v:Bool} (hv:Ev (fun k=>numnahref01_Covers.l0 k s l ((p + 1:Nat):Int)) v):∀ d i,i + d = l.length → Ev (fun k=>numnahref01_Covers.l1 k s l (p:Int) ((l.take i).any fun c=>inC c p) (i:Int)) (!badS s l p && v):=by
  intro d
  induction d with
  | zero =>
    intro i hi
    rw [List.take_of_length_le (by omega)]
    unfold badS
    refine Ev.step (fun k=>by rw [numnahref01_Covers.l1,if_neg (by omega),if_pos (by omega),if_pos (by omega),wrap_succ (by omega)]) ?_
    cases hq:l.any (fun c=>inC c p)
    · by_cases a:bt s (p:Int) = 48
      · have b:¬ bt s (p:Int) = 49:=by omega
        rw [beq_false_of_ne b]
        refine Ev.congr (fun k=>if_pos a) (Ev.congr (fun k=>if_neg (by decide)) (Ev.congr (fun k=>if_neg b) ?_))
        simpa using hv
      · refine Ev.congr (fun k=>if_neg a) ?_
        by_cases b:bt s (p:Int) = 49
        · rw [show (bt s (p:Int) == 49) = true from beq_iff_eq.2 b]
          exact Ev.congr (fun k=>if_pos b) (Ev.congr (fun k=>if_neg (by decide)) (Ev.now _))
        · rw [beq_false_of_ne b]
          refine Ev.congr (fun k=>if_neg b) ?_
          simpa using hv
    · by_cases a:bt s (p:Int) = 48
      · rw [show (bt s (p:Int) == 48) = true from beq_iff_eq.2 a]
        exact Ev.congr (fun k=>if_pos a) (Ev.congr (fun k=>if_pos rfl) (Ev.now _))
      · rw [beq_false_of_ne a]
        refine Ev.congr (fun k=>if_neg a) ?_
        by_cases b:bt s (p:Int) = 49
        · refine Ev.congr (fun k=>if_pos b) (Ev.congr (fun k=>if_pos rfl) ?_)
          simpa using hv
        · refine Ev.congr (fun k=>if_neg b) ?_
          simpa using hv
  | succ d ih =>
    intro i hi
    have hil:i < l.length:=by omega
    have hx:=hc _ (List.getElem_mem hil)
    have ih':=ih (i + 1) (by omega)
    rw [List.take_succ_eq_append_getElem hil,List.any_append] at ih'
    cases hq:(l.take i).any (fun c=>inC c p) with
    | true =>
      rw [hq] at ih'
      refine Ev.step (fun k=>?_) ih'
      rw [numnahref01_Covers.l1,if_pos (by omega),if_pos rfl,wrap_succ (by omega)]
      rfl
    | false =>
      rw [hq,Bool.false_or] at ih'
      simp only [List.any_cons,List.any_nil,Bool.or_false] at ih'
      refine Ev.step (fun k=>by rw [numnahref01_Covers.l1,if_pos (by omega),if_neg (by decide),if_pos (by omega),rdS hil,wrap_succ (by omega)]) (Ev.bind (ev_contains hx.2 hx.1 p) ih')
theorem rcov_l0:∀ d p,p + d = s.size → Ev (fun k=>numnahref01_Covers.l0 k s l (p:Int)) (allF (fun p=>!badS s l p) d p):=by
  intro d
  induction d with
  | zero =>
    intro p hp
    refine Ev.step (f:=fun _=>some true) (fun k=>?_) (Ev.now _)
    rw [numnahref01_Covers.l0,if_neg (by omega)]
  | succ d ih =>
    intro p hp
    have:=rcov_l1 hs hl hc (p:=p) (by omega) (ih (p + 1) (by omega)) l.length 0 (by omega)
    refine Ev.step (fun k=>?_) this
    rw [numnahref01_Covers.l0,if_pos (by omega)];rfl
theorem ev_rcov:Ev (fun k=>numnahref01_Covers.f k s l) (covS s l):=rcov_l0 hs hl hc s.size 0 (by omega)
end
end Go.Proofs.Ythpahlkhiknofaa.P
namespace Go.Proofs.Ythpahlkhiknofaa.G
open Go.RowKit Go.Proofs.YthpahlkhiknofaaW.PrintWords Go.Proofs.YthpahlkhiknofaaW.PrintLast Go.Proofs.YthpahlkhiknofaaW.PrintMore
set_option maxHeartbeats 8000000
set_option maxRecDepth 100000
attribute [local go_sem] max2_int min2_int max_two min_two max_three min_three max_four min_four   -- for this text's walks alone
def numnahlaw01_few.l0:Nat → List ByteArray → List ByteArray → Int → Option (List ByteArray)
 | 0,_,_,_=>none
 | k + 1,x0,x3,x4=>if x4 < (x0.length:Int) then (if x4 < 34 then (if 0 ≤ x4 then (if 0 ≤ (mn ((rdOf ByteArray.empty x0 x4).size:Int) 8) then (if (mn ((rdOf ByteArray.empty x0 x4).size:Int) 8) ≤ ((rdOf ByteArray.empty x0 x4).size:Int) then (if x3.length < 8796093022208 then (numnahlaw01_few.l0 k x0 (x3 ++ [(rdOf ByteArray.empty x0 x4).extract 0 ((mn ((rdOf ByteArray.empty x0 x4).size:Int) 8):Int).toNat]) (wrap64 (x4 + 1))) else (none)) else (none)) else (none)) else (none)) else (some x3)) else (some x3)
def numnahlaw01_few.f (k:Nat) (l0:List ByteArray):Option (List ByteArray):=numnahlaw01_few.l0 k l0 ([]:List ByteArray) 0
theorem numnahlaw01_few.mono_l:∀ k,(∀ y0 y1 y2,LeO (numnahlaw01_few.l0 k y0 y1 y2) (numnahlaw01_few.l0 (k + 1) y0 y1 y2))
 | 0=>fun _ _ _ r h=>by simp [numnahlaw01_few.l0] at h
 | k + 1=>by
  have ih0:=numnahlaw01_few.mono_l k
  intro y0 y1 y2
  unfold numnahlaw01_few.l0
  repeat' first
  | (with_reducible exact ih0 _ _ _)
  | (with_reducible exact LeO.refl _)
  | (with_reducible exact LeO.none _)
  | (with_reducible refine LeO.ite ?_ ?_)
  | (with_reducible refine LeO.bind ?_ (fun _=>?_))
  | exact ih0 _ _ _
  | exact LeO.none _
  | refine LeO.ite ?_ ?_
  | refine LeO.bind ?_ (fun _=>?_)
theorem numnahlaw01_few.mono:∀ a0 k,LeO (numnahlaw01_few.f k a0) (numnahlaw01_few.f (k + 1) a0):=by
 intro a0 k
 have ih0:=numnahlaw01_few.mono_l k
 unfold numnahlaw01_few.f
 repeat' first
   | (with_reducible exact ih0 _ _ _)
   | (with_reducible exact LeO.refl _)
   | (with_reducible exact LeO.none _)
   | (with_reducible refine LeO.ite ?_ ?_)
   | (with_reducible refine LeO.bind ?_ (fun _=>?_))
   | exact ih0 _ _ _
   | exact LeO.none _
   | refine LeO.ite ?_ ?_
   | refine LeO.bind ?_ (fun _=>?_)
def numnahlaw01_few.T5:Bool × List (List Nat × List Nat):=(true,[([],[]),([],[]),([],[]),([1,2],[1,2]),([3],[3]),([],[]),([],[]),([5,6],[5,6]),([7],[7]),([8],[8]),([9],[9]),([4,10],[4,10]),([11],[11]),([0,12],[0,12]),([13,13,0,1,2,3,4,5,6,7,8,9,10,11,12,13],[0,13])])
def numnahlaw01_few.B5:List Nat:=[0,0,0,6,14,0,0,96,224,480,992,2046,4094,8191,16383]
theorem numnahlaw01_few.tab5:rtab .any (opsOf Try.f46 5) = numnahlaw01_few.T5:=by kernel_rfl
theorem numnahlaw01_few.bits5:waitsOk numnahlaw01_few.T5.2 numnahlaw01_few.B5 = true:=by kernel_rfl
theorem numnahlaw01_few.calls (k:Nat) (A0:Option Addr) (c0:Nat) (l0:List ByteArray) (r:List ByteArray) (w:World) (hr0:Kd.C Kd.string w A0 l0.length l0) (hc0:l0.length ≤ c0) (h:numnahlaw01_few.f k l0 = some r) :
  Calls Try.prog 46 #[.slice A0 l0.length c0] w fun e w'=>∃ v0_:Value,e = .returned (v0_) ∧ Kd.R Kd.string 9 w' w.heap.size (fun _=>True) v0_ r ∧ Below w.heap.size w w':=by
 have HR0:=Aside0.mk hr0
 have HC0:=Aside0.mk hc0
 clear hr0 hc0
 have HB:=Aside0.mk (Below.refl w.heap.size w)
 have H:(numnahlaw01_few.l0 k l0 ([]:List ByteArray) 0) = some r:=h
 clear h
 have H':=Aside0.mk H
 clear H
 go_enter Try.func46,Try.ntmps46
 go_wp2
 go_loopg [3,4] k (fun kq v3 v4 w'=>∃ (x3_1:List ByteArray) (x4_1:Int),v4 = .int .i64 x4_1 ∧ Aside0 (numnahlaw01_few.l0 kq l0 x3_1 x4_1 = some r) ∧ Aside0 (kq ≤ k) ∧ Aside0 (Kd.R Kd.string 9 w' w.heap.size (fun _=>True) v3 x3_1) ∧ Aside0 (Below w.heap.size w w'))
 case atStart=>exact ⟨(([]:List ByteArray)),(0),(by first | rfl | (simp;done) | (simp [*];done)),H',⟨Nat.le_refl _⟩,⟨by first | exact Kd.R_nil _ _ _ _ _ | exact Kd.N_nil _ _ _ _ _ | exact Kd.V_nil _ _ _ _ _ | exact Kd.Q_nil _ _ _ _ _ | exact Kd.S_nil _ _ _ _ _⟩,⟨by repeat (first | (with_reducible first | exact HB.out | apply below_alloc | apply pw_below_drewN | apply below_drew1) | exact HB.out)⟩⟩
 case round =>
  clear H'
  obtain ⟨x3_1,x4_1,rfl,HA,HK1,HO_3,HB⟩:=hrel
  cases gk with
  | zero=>exact absurd HA.out (by simp [numnahlaw01_few.l0])
  | succ k1 =>
   have H:=HA.out
   clear HA
   simp only [numnahlaw01_few.l0] at H
   by_cases c2:x4_1 < (l0.length:Int)
   case neg =>
    rw [if_neg c2] at H
    have c2b0:decide (x4_1 < (l0.length:Int)) = false:=decide_eq_false c2
    clear c2
    obtain rfl:=Option.some.inj H
    go_wp2
    go_ret
    exact ⟨_,by first | rfl | (simp [errW_none,errW_some] <;> rfl) | (simp [*,errW_none,errW_some] <;> rfl),by (with_reducible repeat (first | apply Kd.R_alloc | apply Kd.R_drewN | apply Kd.R_drew));exact HO_3.out,by repeat (first | (with_reducible first | exact HB.out | apply below_alloc | apply pw_below_drewN | apply below_drew1) | exact HB.out)⟩
   rw [if_pos c2] at H
   have c2b0:decide (x4_1 < (l0.length:Int)) = true:=decide_eq_true c2
   clear c2
   by_cases c3:x4_1 < 34
   case neg =>
    rw [if_neg c3] at H
    have c3b0:decide (x4_1 < 34) = false:=decide_eq_false c3
    clear c3
    obtain rfl:=Option.some.inj H
    go_wp2
    go_ret
    exact ⟨_,by first | rfl | (simp [errW_none,errW_some] <;> rfl) | (simp [*,errW_none,errW_some] <;> rfl),by (with_reducible repeat (first | apply Kd.R_alloc | apply Kd.R_drewN | apply Kd.R_drew));exact HO_3.out,by repeat (first | (with_reducible first | exact HB.out | apply below_alloc | apply pw_below_drewN | apply below_drew1) | exact HB.out)⟩
   rw [if_pos c3] at H
   have c3b0:decide (x4_1 < 34) = true:=decide_eq_true c3
   clear c3
   by_cases c4:0 ≤ x4_1
   case neg =>
    rw [if_neg c4] at H
    exact absurd H (by simp)
   rw [if_pos c4] at H
   have c4b0:decide (0 ≤ x4_1) = true:=decide_eq_true c4
   clear c4
   obtain ⟨ji5,hji5⟩:∃ j_:Int,(mn ((rdOf ByteArray.empty l0 x4_1).size:Int) 8) = j_:=⟨_,rfl⟩
   replace H:(if 0 ≤ (ji5) then (if (ji5) ≤ ((rdOf ByteArray.empty l0 x4_1).size:Int) then (if x3_1.length < 8796093022208 then (numnahlaw01_few.l0 k1 l0 (x3_1 ++ [(rdOf ByteArray.empty l0 x4_1).extract 0 ((ji5):Int).toNat]) (wrap64 (x4_1 + 1))) else (none)) else (none)) else (none)) = some r:=by first | (rw [hji5] at H;exact H) | (simp only [hji5] at H ⊢;exact H)
   have hji5_:(if 8 < ((rdOf ByteArray.empty l0 x4_1).size:Int) then 8 else ((rdOf ByteArray.empty l0 x4_1).size:Int)) = ji5:=hji5
   by_cases c6:0 ≤ (ji5)
   case neg =>
    rw [if_neg c6] at H
    exact absurd H (by simp)
   rw [if_pos c6] at H
   have c6b0:=eq_true c6
   have c6b1:decide (0 ≤ (ji5)) = true:=decide_eq_true c6
   clear c6
   by_cases c7:(ji5) ≤ ((rdOf ByteArray.empty l0 x4_1).size:Int)
   case neg =>
    rw [if_neg c7] at H
    exact absurd H (by simp)
   rw [if_pos c7] at H
   have c7b0:=eq_true c7
   have c7b1:decide ((ji5) ≤ ((rdOf ByteArray.empty l0 x4_1).size:Int)) = true:=decide_eq_true c7
   clear c7
   by_cases c8:x3_1.length < 8796093022208
   case neg =>
    rw [if_neg c8] at H
    exact absurd H (by simp)
   rw [if_pos c8] at H
   have LMc8:=Aside0.mk c8
   clear c8
   obtain ⟨y372,hy372⟩:∃ y_:List ByteArray,y_ = (x3_1 ++ [(rdOf ByteArray.empty l0 x4_1).extract 0 ((ji5):Int).toNat]):=⟨_,rfl⟩
   replace H:(numnahlaw01_few.l0 k1 l0 y372 (wrap64 (x4_1 + 1))) = some r:=by first | (rw [hy372];with_reducible exact H) | (have H2_:=(Option.bind_some _ _).symm.trans H;rw [hy372];with_reducible exact H2_) | (have H2_:=(Option.bind_some _ _).symm.trans H;with_reducible exact H2_) | with_reducible exact H | (rw [hy372];exact H) | exact H
   have Ny372:=Aside0.mk hy372
   clear hy372
   have H':=Aside0.mk H
   clear H
   try go_wp2
   have n0_:=Aside0.mk (Kd.R_drew HO_3.out)
   have n1_:=Aside0.mk (below_drew1 HB.out)
   clear HO_3
   clear HB
   have HO_3:=n0_
   have HB:=n1_
   clear n0_ n1_
   have p370:0 ≤ (x4_1:Int):=of_decide_eq_true (by first | (with_reducible assumption) | assumption)
   have q370:x4_1 < (l0.length:Int):=of_decide_eq_true (by first | (with_reducible assumption) | assumption)
   obtain ⟨ad370,e370,hx370_0⟩:=Kd.at_string HR0.out x4_1 p370 q370
   have hw370_0:=hx370_0
   cases e370
   replace hx370_0:=(HB.out.cell (World.block_lt_of_cell? w _ hx370_0)).trans hx370_0
   replace p370:=eq_true p370
   replace q370:=eq_true q370
   have p371:0 ≤ (x4_1:Int):=of_decide_eq_true (by first | (with_reducible assumption) | assumption)
   have q371:x4_1 < (l0.length:Int):=of_decide_eq_true (by first | (with_reducible assumption) | assumption)
   obtain ⟨ad371,e371,hx371_0⟩:=Kd.at_string HR0.out x4_1 p371 q371
   have hw371_0:=hx371_0
   obtain rfl:ad370 = ad371:=(by injection e371)
   replace hx371_0:=(HB.out.cell (World.block_lt_of_cell? w _ hx371_0)).trans hx371_0
   replace p371:=eq_true p371
   replace q371:=eq_true q371
   refine start_ (n:=15) (S:=fun w'=>w'.cell? (ad370.add (x4_1).toNat) = some (.string (rdOf ByteArray.empty l0 x4_1)) ∧ w'.cell? (ad370.add (x4_1).toNat) = some (.string (rdOf ByteArray.empty l0 x4_1))) (ds:=[]) #[false,false,false,false,false,false,false,false,false,false,false,false,false,false,false] (by kernel_rfl) rfl rfl ⟨((HB.out.cell (World.block_lt_of_cell? w _ hw370_0)).trans hw370_0),((HB.out.cell (World.block_lt_of_cell? w _ hw371_0)).trans hw371_0)⟩ (fun hHeld=>?_);refine with_tabW numnahlaw01_few.tab5 numnahlaw01_few.bits5 (fun HT_ HW_=>?_)
   generalize wr.drew = w9 at HO_3 HB hx370_0 hx371_0 hHeld ⊢
   refine pure_ (i:=0) (N:=some 15) (v:=?_) (a':=?_) #[true,false,false,false,false,false,false,false,false,false,false,false,false,false,false] rfl rfl (any_of HT_.out (by kernel_rfl)) (fun _ _ _ h=>h) (Or.inl ⟨by rfl,?_⟩) ?_ ?_
   rotate_left
   ·intro w'
    go_simp
    with_reducible rfl
   rotate_left
   ·simp only [Act.put,List.setIfInBounds_toArray,List.set_cons_zero,List.set_cons_succ,i64_w,i32_w]
    rfl
   refine pure_ (i:=1) (N:=some 16) (v:=?_) (a':=?_) #[true,true,false,false,false,false,false,false,false,false,false,false,false,false,false] rfl rfl (any_of HT_.out (by kernel_rfl)) (fun _ _ _ h=>h) (Or.inl ⟨by rfl,?_⟩) ?_ ?_
   rotate_left
   ·intro w'
    go_simp
    with_reducible rfl
   rotate_left
   ·simp only [Act.put,List.setIfInBounds_toArray,List.set_cons_zero,List.set_cons_succ,i64_w,i32_w]
    rfl
   refine pure_ (i:=2) (N:=some 17) (v:=?_) (a':=?_) #[true,true,true,false,false,false,false,false,false,false,false,false,false,false,false] rfl rfl (any_of HT_.out (by kernel_rfl)) (fun _ _ _ h=>h) (Or.inl ⟨by rfl,?_⟩) ?_ ?_
   rotate_left
   ·intro w'
    go_simp
    with_reducible rfl
   rotate_left
   ·simp only [Act.put,List.setIfInBounds_toArray,List.set_cons_zero,List.set_cons_succ,i64_w,i32_w]
    rfl
   refine pure_ (i:=3) (N:=some 18) (v:=?_) (a':=?_) #[true,true,true,true,false,false,false,false,false,false,false,false,false,false,false] rfl rfl (any_of HT_.out (by kernel_rfl)) (fun _ _ _ h=>h) (Or.inl ⟨by rfl,?_⟩) ?_ ?_
   rotate_left
   ·intro w'
    go_simp
    with_reducible rfl
   rotate_left
   ·simp only [Act.put,List.setIfInBounds_toArray,List.set_cons_zero,List.set_cons_succ,i64_w,i32_w]
    rfl
   refine pure_ (i:=5) (N:=some 20) (v:=?_) (a':=?_) #[true,true,true,true,false,true,false,false,false,false,false,false,false,false,false] rfl rfl (any_of HT_.out (by kernel_rfl)) (fun _ _ _ h=>h) (Or.inl ⟨by rfl,?_⟩) ?_ ?_
   rotate_left
   ·intro w'
    go_simp
    with_reducible rfl
   rotate_left
   ·simp only [Act.put,List.setIfInBounds_toArray,List.set_cons_zero,List.set_cons_succ,i64_w,i32_w]
    rfl
   refine pure_ (i:=6) (N:=some 21) (v:=?_) (a':=?_) #[true,true,true,true,false,true,true,false,false,false,false,false,false,false,false] rfl rfl (any_of HT_.out (by kernel_rfl)) (fun _ _ _ h=>h) (Or.inl ⟨by rfl,?_⟩) ?_ ?_
   rotate_left
   ·intro w'
    go_simp
    with_reducible rfl
   rotate_left
   ·simp only [Act.put,List.setIfInBounds_toArray,List.set_cons_zero,List.set_cons_succ,i64_w,i32_w]
    rfl
   refine pure_ (i:=7) (N:=some 22) (v:=?_) (a':=?_) #[true,true,true,true,false,true,true,true,false,false,false,false,false,false,false] rfl rfl (any_of HT_.out (by kernel_rfl)) (fun _ _ _ h=>h) (Or.inl ⟨by rfl,?_⟩) ?_ ?_
   rotate_left
   ·intro w'
    go_simp
    with_reducible rfl
   rotate_left
   ·simp only [Act.put,List.setIfInBounds_toArray,List.set_cons_zero,List.set_cons_succ,i64_w,i32_w]
    rfl
   refine take_ (i:=4) (N:=some 19) (v:=?_) (a':=?_) #[true,true,true,true,true,true,true,true,false,false,false,false,false,false,false] rfl rfl (take_ofW HT_.out HW_.out (by kernel_rfl)) (fun _ _ _ h=>h) (Or.inl ⟨by rfl,?_⟩) hHeld ?_ ?_
   rotate_left
   ·rintro w' ⟨s0,s1⟩
    go_simp
    with_reducible rfl
   rotate_left
   ·simp only [Act.put,List.setIfInBounds_toArray,List.set_cons_zero,List.set_cons_succ,i64_w,i32_w]
    rfl
   refine take_ (i:=8) (N:=some 23) (v:=?_) (a':=?_) #[true,true,true,true,true,true,true,true,true,false,false,false,false,false,false] rfl rfl (take_ofW HT_.out HW_.out (by kernel_rfl)) (fun _ _ _ h=>h) (Or.inl ⟨by rfl,?_⟩) hHeld ?_ ?_
   rotate_left
   ·rintro w' ⟨s0,s1⟩
    go_simp
    with_reducible rfl
   rotate_left
   ·simp only [Act.put,List.setIfInBounds_toArray,List.set_cons_zero,List.set_cons_succ,i64_w,i32_w]
    rfl
   refine pure_ (i:=9) (N:=some 24) (v:=?_) (a':=?_) #[true,true,true,true,true,true,true,true,true,true,false,false,false,false,false] rfl rfl (any_of HT_.out (by kernel_rfl)) (fun _ _ _ h=>h) (Or.inl ⟨by rfl,?_⟩) ?_ ?_
   rotate_left
   ·intro w'
    go_simp
    with_reducible rfl
   rotate_left
   ·simp only [Act.put,List.setIfInBounds_toArray,List.set_cons_zero,List.set_cons_succ,i64_w,i32_w]
    rfl
   refine pure_ (i:=10) (N:=some 25) (v:=?_) (a':=?_) #[true,true,true,true,true,true,true,true,true,true,true,false,false,false,false] rfl rfl (any_of HT_.out (by kernel_rfl)) (fun _ _ _ h=>h) (Or.inl ⟨by rfl,?_⟩) ?_ ?_
   rotate_left
   ·intro w'
    go_simp
    with_reducible rfl
   rotate_left
   ·simp only [Act.put,List.setIfInBounds_toArray,List.set_cons_zero,List.set_cons_succ,i64_w,i32_w]
    rfl
   refine pure_ (i:=11) (N:=some 26) (v:=?_) (a':=?_) #[true,true,true,true,true,true,true,true,true,true,true,true,false,false,false] rfl rfl (any_of HT_.out (by kernel_rfl)) (fun _ _ _ h=>h) (Or.inl ⟨by rfl,?_⟩) ?_ ?_
   rotate_left
   ·intro w'
    go_simp
    with_reducible rfl
   rotate_left
   ·simp only [Act.put,List.setIfInBounds_toArray,List.set_cons_zero,List.set_cons_succ,i64_w,i32_w]
    rfl
   refine one_ (i:=12) (N:=some 27) #[true,true,true,true,true,true,true,true,true,true,true,true,true,false,false] rfl rfl (one_of HT_.out (by kernel_rfl)) (by decide) (fun K hK=>?_)
   refine value_ (w1:=?_) (v:=?_) (by rfl) rfl ?_ ?_
   rotate_left 2
   ·go_simp
    constructor
    ·rfl
    rfl
   refine hK.out _ _ ⟨(World.cell?_alloc_lt _ _ _ (World.block_lt_of_cell? _ _ (((HB.out.cell (World.block_lt_of_cell? w _ hw370_0)).trans hw370_0)))).trans (((HB.out.cell (World.block_lt_of_cell? w _ hw370_0)).trans hw370_0)),(World.cell?_alloc_lt _ _ _ (World.block_lt_of_cell? _ _ (((HB.out.cell (World.block_lt_of_cell? w _ hw371_0)).trans hw371_0)))).trans (((HB.out.cell (World.block_lt_of_cell? w _ hw371_0)).trans hw371_0))⟩ (fun hHeld=>?_)
   clear hK K
   refine norm_ (a':=?_) ?_ ?_
   rotate_left
   ·show Act.put _ (some 27) _ = _
    simp only [Act.put,List.setIfInBounds_toArray,List.set_cons_zero,List.set_cons_succ,i64_w,i32_w]
    rfl
   refine one_ (i:=13) (N:=some 28) #[true,true,true,true,true,true,true,true,true,true,true,true,true,true,false] rfl rfl (one_of HT_.out (by kernel_rfl)) (by decide) (fun K hK=>?_)
   refine Kd.R_append_step Kd.string (w0:=w) w.heap.size (by rfl) (.tmp 15) (.tmp 27) 39 9 (.string ⟨#[]⟩) 16 rfl Try.underlying39 info9 rfl (by decide) (by omega) u3 x3_1 ((rdOf ByteArray.empty l0 x4_1).extract 0 ((ji5):Int).toNat) [.string ((rdOf ByteArray.empty l0 x4_1).extract 0 ((ji5):Int).toNat)] (fun _=>True) (fun _=>False) rfl rfl ?aP (fun _ hk=>hk.elim) ?aF ?aO ?aB ?aS ?aL ?_
   (case aP=>exact rfl)
   (case aB=>exact (by repeat (first | (with_reducible first | exact HB.out | apply below_alloc | apply pw_below_drewN | apply below_drew1) | exact HB.out)))
   (case aF=>exact (fun _ _=>trivial))
   (case aO=>exact (by (with_reducible repeat (first | apply Kd.R_alloc | apply Kd.R_drewN | apply Kd.R_drew));exact HO_3.out))
   (case aS=>exact (below_size (by repeat (first | (with_reducible first | exact HB.out | apply below_alloc | apply pw_below_drewN | apply below_drew1) | exact HB.out))))
   (case aL=>have:=LMc8.out;omega)
   intro v373 w10 ho hb hg hat
   rw [← Ny372.out] at ho
   have n0_:=Aside0.mk (hb)
   have n1_:=Aside0.mk (ho)
   clear HB
   clear HO_3
   have HB:=n0_
   have HO374:=n1_
   clear n0_ n1_
   clear ho hb hg hat
   refine hK.out _ _ ⟨((HB.out.cell (World.block_lt_of_cell? w _ hw370_0)).trans hw370_0),((HB.out.cell (World.block_lt_of_cell? w _ hw371_0)).trans hw371_0)⟩ (fun hHeld=>?_)
   clear hK K
   refine norm_ (a':=?_) ?_ ?_
   rotate_left
   ·show Act.put _ (some 28) _ = _
    simp only [Act.put,List.setIfInBounds_toArray,List.set_cons_zero,List.set_cons_succ,i64_w,i32_w]
    rfl
   refine pure_ (i:=14) (N:=some 3) (v:=?_) (a':=?_) #[true,true,true,true,true,true,true,true,true,true,true,true,true,true,true] rfl rfl (any_of HT_.out (by kernel_rfl)) (fun _ _ _ h=>h) (Or.inl ⟨by rfl,?_⟩) ?_ ?_
   rotate_left
   ·intro w'
    go_simp
    with_reducible rfl
   rotate_left
   ·simp only [Act.put,List.setIfInBounds_toArray,List.set_cons_zero,List.set_cons_succ,i64_w,i32_w]
    rfl
   refine done_ (done_of HT_.out (by kernel_rfl)) ?_
   try go_wp2
   go_roundg k1
   case measure=>have:=HK1.out;omega
   case rel=>exact ⟨(y372),(wrap64 (x4_1 + 1)),(by first | rfl | (simp;done) | (simp [*];done)),H',⟨by have:=HK1.out;omega⟩,⟨by (with_reducible repeat (first | apply Kd.R_alloc | apply Kd.R_drewN | apply Kd.R_drew));exact HO374.out⟩,⟨by repeat (first | (with_reducible first | exact HB.out | apply below_alloc | apply pw_below_drewN | apply below_drew1) | exact HB.out)⟩⟩
end Go.Proofs.Ythpahlkhiknofaa.G
namespace Go.Proofs.Ythpahlkhiknofaa.G
open Go Go.RowKit Go.Proofs.YthpahlkhiknofaaW.PrintWords Go.Proofs.YthpahlkhiknofaaW.PrintLast Go.Proofs.YthpahlkhiknofaaW.PrintMore
theorem R_empty {α:Type} (d:Kd α) {e:Nat} {w:World} {base g:Nat} (h:w.heap[g]? = some (.cells #[] e (0,0))) (hg:base ≤ g):Kd.R d e w base (fun _=>True) (.slice (some ⟨g,0,none⟩) 0 0) []:=by
 refine ⟨fun _ _=>trivial,[],?_,?_⟩
 ·refine ⟨by simp,.inr ⟨g,0,#[],rfl,hg,h,Nat.le_refl _,Nat.zero_le _,by simp,by simp⟩⟩
 exact Reps.none _ _
set_option maxHeartbeats 8000000 in
set_option maxRecDepth 100000 in
theorem clone82 (A:Option Addr) (c:Nat) (l:List S96) (w:World) (hl:Kd.C k96 w A l.length l) (hlc:l.length ≤ c) (hlen:l.length < 1000000) :
  Calls Try.prog 82 #[.slice A l.length c] w fun e w'=>∃ v:Value,e = .returned v ∧ Kd.R k96 96 w' w.heap.size (fun _=>True) v l ∧ Below w.heap.size w w':=by
 have HL:=Lib.hid hl
 have HLC:=Lib.hid hlc
 have HB:=Lib.hid (Below.refl w.heap.size w)
 cases A with
 | none =>
  have h0:l.length = 0:=by
   rcases Nat.eq_zero_or_pos l.length with h | h
   ·exact h
   obtain ⟨ad,e,_⟩:=at_T96 HL.out 0 (by omega) (by omega)
   cases e
  obtain rfl:l = []:=List.eq_nil_of_length_eq_zero h0
  have he:=Lib.run_eql_slice_nil (P:=Try.prog) w 93 96 none 0 c 0 0 Try.underlying93
  go_enter Try.func82,Try.ntmps82
  go_wp2_with fail
  exact bodyPost_ret (v:=.slice none 0 0) (results_tmp (t:=2) rfl _ _ _) rfl ⟨Value.slice none 0 0,rfl,Kd.R_nil _ _ _ _ (fun _=>True),Below.refl _ _⟩
 | some ad =>
  have he:=Lib.run_eql_slice_nil (P:=Try.prog) w 93 96 (some ad) l.length c 0 0 Try.underlying93
  go_enter Try.func82,Try.ntmps82
  have hbe:Below w.heap.size w (w.alloc (Obj.cells #[] 96)):=(Below.refl _ _).alloc (Nat.le_refl _) _
  have hh:=World.alloc_heap_new w (Obj.cells #[] 96)
  have HE:=Lib.hid (R_empty (e:=96) k96 (w:=w.alloc (Obj.cells #[] 96)) (base:=w.heap.size) (g:=w.heap.size) hh (Nat.le_refl _))
  go_wp2_with ((with_reducible refine gate_builtin (b:=.append) (xs:=#[.tmp 5,.tmp 6]) rfl ?_);at_builtin;refine Kd.R_append_rows k96 (w0:=w) w.heap.size rfl (.tmp 5) (.tmp 6) 93 96 (.agg #[.int .i64 0,.int .i64 0]) 16 rfl Try.underlying93 info96 rfl (by decide) (by omega) (.slice (some ⟨w.heap.size,0,none⟩) 0 0) ([]:List S96) l _ _ _ (fun _=>True) (fun _=>False) rfl rfl ?aO ?aR (fun _ _ h=>h) (fun _ h=>h.elim) ?aF ?aB ?aS ?aL ?_;(case aO=>exact HE.out);(case aR=>exact Kd.C_alloc HL.out _);(case aF=>exact fun _ _=>trivial);(case aB=>exact hbe);(case aS=>exact hbe.size);(case aL=>simp only [List.length_nil];omega);intro v106 w7 ho hb hg hat;have HO:=Lib.hid ho;have HB7:=Lib.hid hb;clear ho hb hg hat)
  exact bodyPost_ret (v:=v106) (results_tmp (t:=2) rfl _ _ _) rfl ⟨v106,rfl,HO.out,HB7.out⟩
end Go.Proofs.Ythpahlkhiknofaa.G
namespace Go.Proofs.Ythpahlkhiknofaa.H
open Go Go.RowKit Go.Shelf Go.Proofs.Ythpahlkhiknofaa.G Go.Proofs.Ythpahlkhiknofaa.P Go.Proofs.YthpahlkhiknofaaW.PrintWords
attribute [local go_sem] Oper.semAt_some wide_fn
def stV (xs:List Int):Value:=.agg (xs.map (Value.int .i64)).toArray
def valS (xs:List Int) (p:Int):Nat → Int → Int
 | 0,a=>a
 | i + 1,a=>if (Go.bits .and .i64 (p / 2 ^ i) 1 == 1) = true then wrap64 (valS xs p i a + rd xs (i:Int)) else valS xs p i a
def stO (x0 x1 x2 x3 x4 x5:Int):Obj:=.cells #[.int .i64 x0,.int .i64 x1,.int .i64 x2,.int .i64 x3,.int .i64 x4,.int .i64 x5] 88
theorem st_cell (x0 x1 x2 x3 x4 x5:Int) (w:World) {i:Nat} (hi:i ≤ 5):(w.alloc (stO x0 x1 x2 x3 x4 x5)).cell? { block:=w.heap.size,off:=i } = some (.int .i64 (rd [x0,x1,x2,x3,x4,x5] (i:Int))):=by
 have h:=World.alloc_heap_new w (stO x0 x1 x2 x3 x4 x5)
 rcases (by omega:i = 0 ∨ i = 1 ∨ i = 2 ∨ i = 3 ∨ i = 4 ∨ i = 5) with rfl | rfl | rfl | rfl | rfl | rfl <;> (unfold World.cell?;rw [h];rfl)
set_option maxHeartbeats 4000000 in
set_option maxRecDepth 100000 in
theorem value62 (x0 x1 x2 x3 x4 x5:Int) (n:Nat) (hn:n ≤ 5) (p:Int) (w:World) :
  Calls Try.prog 62 #[stV [x0,x1,x2,x3,x4,x5],.int .i64 (n:Int),.int .i64 p] w fun e w'=>e = .returned (.int .i64 (valS [x0,x1,x2,x3,x4,x5] p n (wrap64 (-rd [x0,x1,x2,x3,x4,x5] (n:Int))))) ∧ Below w.heap.size w w':=by
 refine (callsIn_wide (n:=9)).1 ?_
 refine callsIn_of_wp Try.func62 rfl trivial ?_
 simp only [Try.ntmps62,List.size_toArray,List.length_cons,List.length_nil,Nat.reduceAdd,Nat.reduceSub,Array.replicate_succ,Array.replicate_zero,List.push_toArray,List.append_toArray,List.nil_append,List.cons_append]
 unfold stV
 have hcn:=st_cell x0 x1 x2 x3 x4 x5 w hn
 obtain ⟨y,hy⟩:∃ y,rd [x0,x1,x2,x3,x4,x5] (n:Int) = y:=⟨_,rfl⟩
 rw [hy] at hcn ⊢
 unfold stO at hcn
 gi_wp2_with fail
 gi_loopg [7,14] n (fun k s7 s14 W=>∃ i:Nat,s14 = .int .i64 (i:Int) ∧ s7 = .int .i64 (valS [x0,x1,x2,x3,x4,x5] p i (wrap64 (-y))) ∧ i ≤ n ∧ n ≤ k + i ∧ Below (w.heap.size + 1) (w.alloc (stO x0 x1 x2 x3 x4 x5)) W)
 case atStart=>exact ⟨0,rfl,rfl,by omega,by omega,Below.refl _ _⟩
 case round =>
  obtain ⟨i,rfl,rfl,hi,hk,hB⟩:=hrel
  have HB:=Lib.hid hB
  clear hB
  by_cases hil:i < n
  case neg =>
   have:i = n:=by omega
   subst this
   gi_wp2_with fail
   exact bodyPost_ret (v:=.int .i64 (valS [x0,x1,x2,x3,x4,x5] p i (wrap64 (-y)))) (results_tmp (t:=6) rfl _ _ _) rfl ⟨rfl,((Below.refl _ _).alloc (Nat.le_refl _) _).trans (HB.out.mono (Nat.le_succ _))⟩
  have hcell:=(HB.out.cell (p:={ block:=w.heap.size,off:=i }) (Nat.lt_succ_self _)).trans (st_cell x0 x1 x2 x3 x4 x5 w (show i ≤ 5 by omega))
  obtain ⟨x,hxe⟩:∃ x,rd [x0,x1,x2,x3,x4,x5] (i:Int) = x:=⟨_,rfl⟩
  rw [hxe] at hcell
  have HXE:=Lib.hid hxe
  clear hxe
  obtain ⟨q,hq⟩:∃ q,(Go.bits .and .i64 (p / 2 ^ i) 1 == 1) = q:=⟨_,rfl⟩
  have hsh:0 ≤ (i:Int):=by omega
  have hw1:=wrap_succ (i:=i) (by omega)
  have HQ:=Lib.hid hq
  cases q with
  | true =>
   gi_wp2_with fail
   gi_roundg (n - (i + 1))
   case measure=>omega
   case rel =>
    refine ⟨i + 1,by first | rfl | simp [hw1],?_,by omega,by omega,HB.out⟩
    rw [valS,if_pos HQ.out,HXE.out]
  | false =>
   gi_wp2_with fail
   gi_roundg (n - (i + 1))
   case measure=>omega
   case rel =>
    refine ⟨i + 1,by first | rfl | simp [hw1],?_,by omega,by omega,HB.out⟩
    rw [valS,if_neg (by rw [HQ.out];decide)]
end Go.Proofs.Ythpahlkhiknofaa.H
namespace Go.Proofs.Ythpahlkhiknofaa.G
open Go Go.RowKit Go.Proofs.YthpahlkhiknofaaW.PrintWords
/-- The bounds under which the walk was told. -/
def okT (s:ByteArray) (n:Int) (t:ByteArray) (ok:Bool):Prop:=s = t ∧ s.size ≤ 1000 ∧ (ok = true → 0 ≤ n ∧ n ≤ 5)
instance (s:ByteArray) (n:Int) (t:ByteArray) (ok:Bool):Decidable (okT s n t ok):=by unfold okT;exact inferInstance
end Go.Proofs.Ythpahlkhiknofaa.G
