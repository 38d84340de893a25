/- Several texts, joined. -/
import Derived.Lib.Hide
import Derived.WalkKit
import Derived.WalkSpells
import Derived.WalkLawsBesides
import Derived.Deep.DeepFit
import Derived.OwnWalkIn
import Derived.TacticsInMore
import Derived.LoopNIn
import Derived.LoopIn
import Derived.Sort.QuietIn
import Derived.Sort.BigQuietIn
import Derived.Sort.QuietTacIn
import Derived.Sort.LoopGhostIn
import Derived.Stop.RegionWithIn
import Derived.Maps.OwnIn
import Derived.Shelf.Abstract
import Derived.Shelf.RegionOpen
import Derived.RangeFuncRecord
import Derived.Sort.Grow
import Derived.Deep.Draws
import Derived.Lib.SliceRun
import Derived.BigRegion
import Derived.Deep.RegionLaw
import Derived.Deep.RegionHeld3
import Derived.Shelf.SlLaysF0
import Derived.Ground.SlsfProg
import Derived.Shelf.SlSortCmp.WholeK
import Derived.Test.YthpahlkhiknofaaProg
import Derived.Test.YthpahlkhiknofaaQI2
namespace Go.Proofs.Ythpahlkhiknofaa.G
end Go.Proofs.Ythpahlkhiknofaa.G
namespace Go.Proofs.Ythpahlkhiknofaa.H
end Go.Proofs.Ythpahlkhiknofaa.H
namespace Go.Proofs.Ythpahlkhiknofaa.P
end Go.Proofs.Ythpahlkhiknofaa.P
set_option linter.unusedVariables false
set_option linter.unusedSimpArgs false
namespace Go.Proofs.Ythpahlkhiknofaa.G
open Go.RowKit Go.Proofs.YthpahlkhiknofaaW.PrintWords Go.Proofs.YthpahlkhiknofaaW.PrintLast Go.Proofs.YthpahlkhiknofaaW.PrintMore
set_option maxHeartbeats 8000000
set_option maxRecDepth 100000
attribute [local go_sem] max2_int min2_int max_two min_two max_three min_three max_four min_four   -- for this text's walks alone
def card_within.f (a0:Int) (a1:Int) (a2:Int):Option (Bool):=if a0 ≥ a1 then (some (decide (a0 ≤ a2))) else (some false)
theorem card_within.calls (a0:Int) (a1:Int) (a2:Int) (r:Bool) (w:World) (h:card_within.f a0 a1 a2 = some r) :
  Calls Try.prog 61 #[.int .i64 a0,.int .i64 a1,.int .i64 a2] w fun e w'=>e = .returned (.bool r) ∧ Drawn0 w w':=by
 have H:(if a0 ≥ a1 then (some (decide (a0 ≤ a2))) else (some false)) = some r:=h
 clear h
 by_cases c4:a0 ≥ a1
 ·rw [if_pos c4] at H
  have c4b0:decide (a1 ≤ a0) = true:=decide_eq_true c4
  clear c4
  obtain rfl:=Option.some.inj H
  go_enter Try.func61,Try.ntmps61
  go_wp2
  go_ret
  exact ⟨by first | rfl | (simp;done) | (simp [*];done),by repeat (first | exact Drawn0.refl _ | apply Drawn0.step)⟩
 rw [if_neg c4] at H
 have c4b0:decide (a1 ≤ a0) = false:=decide_eq_false c4
 clear c4
 obtain rfl:=Option.some.inj H
 go_enter Try.func61,Try.ntmps61
 go_wp2
 go_ret
 exact ⟨by first | rfl | (simp;done) | (simp [*];done),by repeat (first | exact Drawn0.refl _ | apply Drawn0.step)⟩
end Go.Proofs.Ythpahlkhiknofaa.G
namespace Go.Proofs.Ythpahlkhiknofaa.H
open Go Go.RowKit Go.Shelf Go.Proofs.Ythpahlkhiknofaa.G Go.Proofs.YthpahlkhiknofaaW.PrintWords
def fitL {α:Type} (l:List α):Prop:=l.length ≤ 9223372036854775807
instance {α:Type} (l:List α):Decidable (fitL l):=by unfold fitL;exact inferInstance
theorem wide_fn (f:FuncId):Fence.wide.fn f = True:=rfl
attribute [local go_sem] Oper.semAt_some wide_fn
theorem within_val (a lo hi:Int) (w:World):Calls Try.prog 61 #[.int .i64 a,.int .i64 lo,.int .i64 hi] w fun e w'=>e = .returned (.bool (decide (lo ≤ a ∧ a ≤ hi))) ∧ Drawn0 w w':=by
 refine card_within.calls a lo hi _ w ?_
 unfold card_within.f
 by_cases h:a ≥ lo
 case neg =>
  rw [if_neg h]
  congr 1
  rw [eq_comm,decide_eq_false_iff_not]
  exact fun k=>h k.1
 rw [if_pos h]
 congr 1
 rw [Bool.eq_iff_iff,decide_eq_true_iff,decide_eq_true_iff]
 exact ⟨fun k=>⟨h,k⟩,fun k=>k.2⟩
set_option maxHeartbeats 1000000 in
theorem c60_any (x:Int) (w:World):Calls Try.prog 60 #[.int .i64 x] w fun e w'=>e = .returned (.bool (!decide (-1000000 ≤ x ∧ x ≤ 1000000))) ∧ Below w.heap.size w w':=by
 refine (callsIn_wide (n:=9)).1 ?_
 refine callsIn_of_wp Try.func60 rfl trivial ?_
 simp only [Try.ntmps60,List.size_toArray,List.length_cons,List.length_nil,Nat.reduceAdd,Nat.reduceSub,Array.replicate_succ,Array.replicate_zero,List.push_toArray,List.append_toArray,List.nil_append,List.cons_append]
 gi_wp2_with fail
 refine (callsIn_wide.2 (within_val x (-1000000) 1000000 w)).mono ?_
 rintro e w1 ⟨rfl,hd⟩
 have HB:=Lib.hid hd.below
 clear hd
 gi_wp2_with fail
 exact bodyPost_ret (v:=.bool (!decide (-1000000 ≤ x) || !decide (x ≤ 1000000))) (results_tmp (t:=2) rfl _ _ _) rfl ⟨by rw [Bool.decide_and,Bool.not_and],HB.out⟩
set_option maxHeartbeats 4000000 in
set_option maxRecDepth 100000 in
theorem index60 (A:Option Addr) (c:Nat) (l:List Int) (w:World) (hl:Kd.C (Kd.int .i64) w A l.length l) (hlen:fitL l) :
  Calls Try.prog 93 #[.slice A l.length c,.func (.func 60) #[] #[]] w fun e w'=>∃ i:Int,e = .returned (.int .i64 i) ∧ decide (0 ≤ i) = l.any (fun x=>!decide (-1000000 ≤ x ∧ x ≤ 1000000)) ∧ Below w.heap.size w w':=by
 refine (callsIn_wide (n:=9)).1 ?_
 refine callsIn_of_wp Try.func93 rfl trivial ?_
 simp only [Try.ntmps93,List.size_toArray,List.length_cons,List.length_nil,Nat.reduceAdd,Nat.reduceSub,Array.replicate_succ,Array.replicate_zero,List.push_toArray,List.append_toArray,List.nil_append,List.cons_append]
 unfold fitL at hlen
 have HL:=Lib.hid hl
 clear hl
 gi_wp2_with fail
 gi_loopg [8] l.length (fun k s8 W=>∃ i:Nat,s8 = .int .i64 (i:Int) ∧ i ≤ l.length ∧ l.length ≤ k + i ∧ Below w.heap.size w W ∧ (l.take i).any (fun x=>!decide (-1000000 ≤ x ∧ x ≤ 1000000)) = false)
 case atStart=>exact ⟨0,rfl,by omega,by omega,Below.refl _ _,rfl⟩
 case round =>
  obtain ⟨i,rfl,hi,hk,hB,hany⟩:=hrel
  have HB:=Lib.hid hB
  have HA:=Lib.hid hany
  clear hB hany
  by_cases hil:i < l.length
  case neg =>
   have:i = l.length:=by omega
   subst this
   gi_wp2_with fail
   refine bodyPost_ret (v:=.int .i64 (-1)) (results_tmp (t:=4) rfl _ _ _) rfl ⟨-1,rfl,?_,HB.out⟩
   have:=HA.out
   rw [List.take_length] at this
   rw [this];simp
  have hI0:(0:Int) ≤ (i:Int):=by omega
  have hI1:(i:Int) < (l.length:Int):=by omega
  obtain ⟨ad,e0,hx⟩:=Kd.at_int HL.out (i:Int) hI0 hI1
  cases e0
  rw [Int.toNat_natCast] at hx
  have hcell:=(HB.out.cell (World.block_lt_of_cell? w _ hx)).trans hx
  obtain ⟨x,hxe⟩:∃ x,rd l (i:Int) = x:=⟨_,rfl⟩
  rw [hxe] at hcell
  have hxi:l[i] = x:=by rw [← hxe];unfold rd;simp [hil]
  have HXE:=Lib.hid hxi
  clear hx hxe hxi
  gi_wp2_with fail
  refine (callsIn_wide.2 (c60_any x _)).mono ?_
  rintro e w1 ⟨rfl,hb1⟩
  have HB1:=Lib.hid hb1
  have hs:=HB.out.size
  obtain ⟨q,hq⟩:∃ q,(!decide (-1000000 ≤ x ∧ x ≤ 1000000)) = q:=⟨_,rfl⟩
  rw [hq]
  have HQ:=Lib.hid hq
  clear hb1 hq
  cases q with
  | true =>
   gi_wp2_with fail
   refine bodyPost_ret (v:=.int .i64 (i:Int)) (results_tmp (t:=4) rfl _ _ _) rfl ⟨i,rfl,?_,HB.out.trans (HB1.out.mono hs)⟩
   have:l.any (fun x=>!decide (-1000000 ≤ x ∧ x ≤ 1000000)) = true:=List.any_eq_true.2 ⟨x,by rw [← HXE.out];exact List.getElem_mem hil,HQ.out⟩
   rw [this];simp
  | false =>
   gi_wp2_with fail
   gi_roundg (l.length - (i + 1))
   case measure=>omega
   case rel =>
    refine ⟨i + 1,by simp,by omega,by omega,HB.out.trans (HB1.out.mono hs),?_⟩
    rw [List.take_succ_eq_append_getElem hil,List.any_append,HA.out,HXE.out]
    simp only [List.any_cons,List.any_nil,Bool.or_false,Bool.false_or]
    exact HQ.out
set_option maxHeartbeats 4000000 in
theorem contains60 (A:Option Addr) (c:Nat) (l:List Int) (w:World) (hl:Kd.C (Kd.int .i64) w A l.length l) (hlen:fitL l) :
  Calls Try.prog 59 #[.slice A l.length c,.func (.func 60) #[] #[]] w fun e w'=>e = .returned (.bool (l.any (fun x=>!decide (-1000000 ≤ x ∧ x ≤ 1000000)))) ∧ Below w.heap.size w w':=by
 refine (callsIn_wide (n:=9)).1 ?_
 refine callsIn_of_wp Try.func59 rfl trivial ?_
 simp only [Try.ntmps59,List.size_toArray,List.length_cons,List.length_nil,Nat.reduceAdd,Nat.reduceSub,Array.replicate_succ,Array.replicate_zero,List.push_toArray,List.append_toArray,List.nil_append,List.cons_append]
 have HI:=Lib.hid (index60 A c l w hl hlen)
 clear hl
 gi_wp2_with fail
 refine (callsIn_wide.2 HI.out).mono ?_
 rintro e w1 ⟨i,rfl,hd,hb1⟩
 have HD:=Lib.hid hd
 have HB1:=Lib.hid hb1
 clear hd hb1
 gi_wp2_with fail
 refine bodyPost_ret (v:=.bool (decide (0 ≤ i))) (results_tmp (t:=4) rfl _ _ _) rfl ⟨by rw [HD.out],HB1.out⟩
end Go.Proofs.Ythpahlkhiknofaa.H
namespace Go.Proofs.Ythpahlkhiknofaa.G
open Go Go.RowKit Go.Proofs.YthpahlkhiknofaaW.PrintWords
def contains60.f (l0:List Int):Option ((Bool)):=if H.fitL l0 then some (l0.any (fun x=>!decide (-1000000 ≤ x ∧ x ≤ 1000000))) else none
theorem contains60.calls (A0:Option Addr) (c0:Nat) (l0:List Int) (r:Bool) (w:World) (hr0:Kd.C (Kd.int .i64) w A0 l0.length l0) (_:l0.length ≤ c0) (h:contains60.f l0 = some r) :
  Calls Try.prog 59 #[.slice A0 l0.length c0,.func (.func 60) #[] #[]] w fun e w'=>e = .returned (.bool r) ∧ Below w.heap.size w w':=by
 unfold contains60.f at h
 by_cases hf:H.fitL l0
 case neg =>
  rw [if_neg hf] at h
  cases h
 rw [if_pos hf] at h
 obtain rfl:=Option.some.inj h
 exact H.contains60 A0 c0 l0 w hr0 hf
end Go.Proofs.Ythpahlkhiknofaa.G
namespace Go.Proofs.Ythpahlkhiknofaa.H
open Go Go.RowKit Go.Shelf Go.Proofs.Ythpahlkhiknofaa.G Go.Proofs.Ythpahlkhiknofaa.P Go.Proofs.YthpahlkhiknofaaW.PrintWords
attribute [local go_sem] Oper.semAt_some wide_fn
def stV (xs:List Int):Value:=.agg (xs.map (Value.int .i64)).toArray
def valS (xs:List Int) (p:Int):Nat → Int → Int
 | 0,a=>a
 | i + 1,a=>if (Go.bits .and .i64 (p / 2 ^ i) 1 == 1) = true then wrap64 (valS xs p i a + rd xs (i:Int)) else valS xs p i a
def stO (x0 x1 x2 x3 x4 x5:Int):Obj:=.cells #[.int .i64 x0,.int .i64 x1,.int .i64 x2,.int .i64 x3,.int .i64 x4,.int .i64 x5] 88
theorem st_cell (x0 x1 x2 x3 x4 x5:Int) (w:World) {i:Nat} (hi:i ≤ 5):(w.alloc (stO x0 x1 x2 x3 x4 x5)).cell? { block:=w.heap.size,off:=i } = some (.int .i64 (rd [x0,x1,x2,x3,x4,x5] (i:Int))):=by
 have h:=World.alloc_heap_new w (stO x0 x1 x2 x3 x4 x5)
 rcases (by omega:i = 0 ∨ i = 1 ∨ i = 2 ∨ i = 3 ∨ i = 4 ∨ i = 5) with rfl | rfl | rfl | rfl | rfl | rfl <;> (unfold World.cell?;rw [h];rfl)
set_option maxHeartbeats 4000000 in
set_option maxRecDepth 100000 in
theorem value62 (x0 x1 x2 x3 x4 x5:Int) (n:Nat) (hn:n ≤ 5) (p:Int) (w:World) :
  Calls Try.prog 62 #[stV [x0,x1,x2,x3,x4,x5],.int .i64 (n:Int),.int .i64 p] w fun e w'=>e = .returned (.int .i64 (valS [x0,x1,x2,x3,x4,x5] p n (wrap64 (-rd [x0,x1,x2,x3,x4,x5] (n:Int))))) ∧ Below w.heap.size w w':=by
 refine (callsIn_wide (n:=9)).1 ?_
 refine callsIn_of_wp Try.func62 rfl trivial ?_
 simp only [Try.ntmps62,List.size_toArray,List.length_cons,List.length_nil,Nat.reduceAdd,Nat.reduceSub,Array.replicate_succ,Array.replicate_zero,List.push_toArray,List.append_toArray,List.nil_append,List.cons_append]
 unfold stV
 have hcn:=st_cell x0 x1 x2 x3 x4 x5 w hn
 obtain ⟨y,hy⟩:∃ y,rd [x0,x1,x2,x3,x4,x5] (n:Int) = y:=⟨_,rfl⟩
 rw [hy] at hcn ⊢
 unfold stO at hcn
 gi_wp2_with fail
 gi_loopg [7,14] n (fun k s7 s14 W=>∃ i:Nat,s14 = .int .i64 (i:Int) ∧ s7 = .int .i64 (valS [x0,x1,x2,x3,x4,x5] p i (wrap64 (-y))) ∧ i ≤ n ∧ n ≤ k + i ∧ Below (w.heap.size + 1) (w.alloc (stO x0 x1 x2 x3 x4 x5)) W)
 case atStart=>exact ⟨0,rfl,rfl,by omega,by omega,Below.refl _ _⟩
 case round =>
  obtain ⟨i,rfl,rfl,hi,hk,hB⟩:=hrel
  have HB:=Lib.hid hB
  clear hB
  by_cases hil:i < n
  case neg =>
   have:i = n:=by omega
   subst this
   gi_wp2_with fail
   exact bodyPost_ret (v:=.int .i64 (valS [x0,x1,x2,x3,x4,x5] p i (wrap64 (-y)))) (results_tmp (t:=6) rfl _ _ _) rfl ⟨rfl,((Below.refl _ _).alloc (Nat.le_refl _) _).trans (HB.out.mono (Nat.le_succ _))⟩
  have hcell:=(HB.out.cell (p:={ block:=w.heap.size,off:=i }) (Nat.lt_succ_self _)).trans (st_cell x0 x1 x2 x3 x4 x5 w (show i ≤ 5 by omega))
  obtain ⟨x,hxe⟩:∃ x,rd [x0,x1,x2,x3,x4,x5] (i:Int) = x:=⟨_,rfl⟩
  rw [hxe] at hcell
  have HXE:=Lib.hid hxe
  clear hxe
  obtain ⟨q,hq⟩:∃ q,(Go.bits .and .i64 (p / 2 ^ i) 1 == 1) = q:=⟨_,rfl⟩
  have hsh:0 ≤ (i:Int):=by omega
  have hw1:=wrap_succ (i:=i) (by omega)
  have HQ:=Lib.hid hq
  cases q with
  | true =>
   gi_wp2_with fail
   gi_roundg (n - (i + 1))
   case measure=>omega
   case rel =>
    refine ⟨i + 1,by first | rfl | simp [hw1],?_,by omega,by omega,HB.out⟩
    rw [valS,if_pos HQ.out,HXE.out]
  | false =>
   gi_wp2_with fail
   gi_roundg (n - (i + 1))
   case measure=>omega
   case rel =>
    refine ⟨i + 1,by first | rfl | simp [hw1],?_,by omega,by omega,HB.out⟩
    rw [valS,if_neg (by rw [HQ.out];decide)]
end Go.Proofs.Ythpahlkhiknofaa.H
namespace Go.Proofs.Ythpahlkhiknofaa.H
open Go Go.RowKit Go.Shelf Go.Proofs.Ythpahlkhiknofaa.G Go.Proofs.Ythpahlkhiknofaa.P Go.Proofs.YthpahlkhiknofaaW.PrintWords Go.Proofs.YthpahlkhiknofaaW.PrintLast Go.Proofs.YthpahlkhiknofaaW.PrintMore
def tx1 (a b:Int) (i:Nat):Int:=if Go.bits .and .i64 (a / 2 ^ i) 1 = 0 then 45 else (48 + Go.bits .and .i64 (b / 2 ^ i) 1) % 256
def txL (a b:Int) (n:Nat):Nat → List Int
 | 0=>List.replicate n 0
 | i + 1=>(txL a b n i).set i (tx1 a b i)
theorem txL_len (a b:Int) (n:Nat):∀ i,(txL a b n i).length = n
 | 0=>by simp [txL]
 | i + 1=>by rw [txL,List.length_set,txL_len a b n i]
def rowB (l:List Int):Obj:=.cells (l.map (Value.int .u8)).toArray 5 (0,0)
theorem rowB_set (l:List Int) (i:Nat) (v:Int):some (Obj.cells (((l.map (Value.int .u8)).toArray).setIfInBounds i (.int .u8 v)) 5 (0,0)) = some (rowB (l.set i v)):=by
 unfold rowB
 rw [List.map_set,List.setIfInBounds_toArray]
theorem madeB (n:Nat):Obj.cells (madeCells #[Value.int .u8 0] n) 5 = rowB (List.replicate n 0):=by
 unfold rowB
 congr 1
 apply Array.ext'
 apply List.ext_getElem
 ·simp [madeCells]
 intro i h1 h2
 simp [madeCells,Nat.mod_one]
theorem grown_of {w w':World} {q:Nat} (hb:Below w.heap.size w w') (hd:w'.drawn = w.drawn + q):∃ os,w' = Go.Sort.grow (w.drewN q) os:=by
 refine ⟨w'.heap.extract w.heap.size w'.heap.size,?_⟩
 have hh:w'.heap = w.heap ++ w'.heap.extract w.heap.size w'.heap.size:=by
  apply Array.ext_getElem?
  intro i
  rw [Array.getElem?_append]
  by_cases h:i < w.heap.size
  ·rw [if_pos h];exact hb.block i h
  rw [if_neg h,Array.getElem?_extract]
  have:=hb.size
  by_cases h2:i < w'.heap.size
  ·rw [if_pos (by omega)];congr 1;omega
  rw [if_neg (by omega)];exact Array.getElem?_eq_none (by omega)
 obtain ⟨h1,t1,d1,o1,p1⟩:=w'
 simp only at hh hd
 have ho:=hb.os
 have ht:=hb.tape
 have hp:=hb.output
 simp only at ho ht hp
 subst ho ht hp hd
 unfold Go.Sort.grow World.drewN
 simp only
 rw [← hh]
set_option maxHeartbeats 4000000 in
set_option maxRecDepth 100000 in
theorem text97 (a b:Int) (n:Nat) (hn:n ≤ 62) (w:World) :
  Calls Try.prog 97 #[.agg #[.int .i64 a,.int .i64 b],.int .i64 (n:Int)] w fun e w'=>e = .returned (.string (strOfNums (txL a b n n))) ∧ Below w.heap.size w w' ∧ w'.drawn = w.drawn:=by
 have hmk:=print_make_of (P:=Try.prog) 42 5 (.int .u8 0) 1 Try.underlying42 info5 rfl (by decide) n (by omega)
 simp only [madeB] at hmk
 go_enter Try.func97,Try.ntmps97
 go_wp2_with fail
 go_loopg [11] n (fun k s11 W=>∃ i:Nat,s11 = .int .i64 (i:Int) ∧ i ≤ n ∧ n ≤ k + i ∧ Below w.heap.size w W ∧ W.drawn = w.drawn ∧ W.heap[w.heap.size]? = some (.cells #[.int .i64 a,.int .i64 b] 96 (0,0)) ∧ W.heap[w.heap.size + 1]? = some (rowB (txL a b n i)))
 case atStart =>
  have h1:=World.alloc_heap_new w (.cells #[.int .i64 a,.int .i64 b] 96 (0,0))
  have h2:=World.alloc_heap_new (w.alloc (.cells #[.int .i64 a,.int .i64 b] 96 (0,0))) (rowB (List.replicate n 0))
  rw [World.size_alloc] at h2
  exact ⟨0,rfl,by omega,by omega,(((Below.refl _ _).alloc (Nat.le_refl _) _).alloc (by simp) _),rfl,(((Below.refl _ _).alloc (Nat.le_refl _) _).block w.heap.size (by rw [World.size_alloc];exact Nat.lt_succ_self _)).trans h1,h2⟩
 case round =>
  obtain ⟨i,rfl,hi,hk,hB,hD,h4,h8⟩:=hrel
  have HB:=Lib.hid hB
  have HD:=Lib.hid hD
  have H4:=Lib.hid h4
  have H8:=Lib.hid h8
  clear hB hD h4 h8
  by_cases hil:i < n
  case neg =>
   have:i = n:=by omega
   subst this
   have hcv:(convert 42 9 (.slice (some ⟨w.heap.size + 1,0,none⟩) i i)).run Try.prog wr = .ok (.string (strOfNums (txL a b i i))) wr:=by
    refine string_of_reads Try.underlying42 Try.underlying5 Try.underlying9 ⟨txL_len _ _ _ _,by omega,fun _=>⟨_,rfl,fun j hj=>?_⟩⟩
    rw [Addr.add_lit]
    refine (cell_of_row _ (w.heap.size + 1) (0 + j) _ _ _ H8.out).trans ?_
    rw [List.getElem?_toArray,List.getElem?_map,Nat.zero_add,List.getElem?_eq_getElem (by rw [txL_len];exact hj),List.getD_eq_getElem?_getD,List.getElem?_eq_getElem (by rw [txL_len];exact hj)];rfl
   go_wp2_with fail
   exact bodyPost_ret (v:=.string (strOfNums (txL a b i i))) (results_tmp (t:=4) rfl _ _ _) rfl ⟨rfl,HB.out,HD.out⟩
  have hca:=cell_of_row _ w.heap.size 0 _ _ _ H4.out
  have hcb:=cell_of_row _ w.heap.size 1 _ _ _ H4.out
  have hfz:=blk_frozen H8.out i
  have hz:=blk_lt H8.out
  have hsh:0 ≤ (i:Int):=by omega
  have hw1:=wrap_succ (i:=i) (by omega)
  have hne:w.heap.size ≠ w.heap.size + 1:=by omega
  obtain ⟨x0,hx0⟩:∃ x,rd (txL a b n i) (i:Int) = x:=⟨_,rfl⟩
  have hcell:=(cell_of_row _ (w.heap.size + 1) i _ _ _ H8.out).trans (show _ = some (Value.int .u8 x0) from by
   rw [List.getElem?_toArray,List.getElem?_map,List.getElem?_eq_getElem (by rw [txL_len];exact hil)];rw [← hx0,rd_get (by rw [txL_len];exact hil)];rfl)
  clear hx0
  obtain ⟨v,hv⟩:∃ v,tx1 a b i = v:=⟨_,rfl⟩
  have HV:=Lib.hid hv
  clear hv
  by_cases hc:Go.bits .and .i64 (a / 2 ^ i) 1 = 0
  ·have hv:v = 45:=by rw [← HV.out];unfold tx1;rw [if_pos hc]
   subst hv
   go_wp2_with fail
   go_roundg (n - (i + 1))
   case measure=>omega
   case rel =>
    refine ⟨i + 1,by first | rfl | simp [hw1],by omega,by omega,HB.out.setCell (Nat.le_succ _) _,HD.out,(Below.heap_setCell _ _ _ _ hne).trans H4.out,?_⟩
    refine (blk_set H8.out i _).trans ?_
    rw [rowB_set,txL,HV.out]
  have hv:v = (48 + Go.bits .and .i64 (b / 2 ^ i) 1) % 256:=by rw [← HV.out];unfold tx1;rw [if_neg hc]
  subst hv
  go_wp2_with fail
  go_roundg (n - (i + 1))
  case measure=>omega
  case rel =>
   refine ⟨i + 1,by first | rfl | simp [hw1],by omega,by omega,HB.out.setCell (Nat.le_succ _) _,HD.out,(Below.heap_setCell _ _ _ _ hne).trans H4.out,?_⟩
   refine (blk_set H8.out i _).trans ?_
   rw [rowB_set,txL,HV.out]
end Go.Proofs.Ythpahlkhiknofaa.H
namespace Go.Proofs.Ythpahlkhiknofaa.G
open Go Go.RowKit Go.Proofs.YthpahlkhiknofaaW.PrintWords
def card_cube_text.f (a0_0:Int) (a0_1:Int) (a1:Int):Option (ByteArray):=if 0 ≤ a1 ∧ a1 ≤ 62 then some (strOfNums (H.txL a0_0 a0_1 a1.toNat a1.toNat)) else none
theorem card_cube_text.calls (a0_0:Int) (a0_1:Int) (a1:Int) (r:ByteArray) (w:World) (h:card_cube_text.f a0_0 a0_1 a1 = some r) :
  Calls Try.prog 97 #[.agg #[.int .i64 a0_0,.int .i64 a0_1],.int .i64 a1] w fun e w'=>e = .returned (.string r) ∧ Below w.heap.size w w':=by
 unfold card_cube_text.f at h
 by_cases hf:0 ≤ a1 ∧ a1 ≤ 62
 case neg =>
  rw [if_neg hf] at h
  cases h
 rw [if_pos hf] at h
 obtain rfl:=Option.some.inj h
 obtain ⟨n,rfl⟩:∃ n:Nat,a1 = (n:Int):=⟨a1.toNat,by omega⟩
 rw [Int.toNat_natCast]
 exact (H.text97 a0_0 a0_1 n (by omega) w).mono fun e w' h=>⟨h.1,h.2.1⟩
end Go.Proofs.Ythpahlkhiknofaa.G
namespace Go.Proofs.Ythpahlkhiknofaa.G
open Go.RowKit Go.Proofs.YthpahlkhiknofaaW.PrintWords Go.Proofs.YthpahlkhiknofaaW.PrintLast Go.Proofs.YthpahlkhiknofaaW.PrintMore
set_option maxHeartbeats 8000000
set_option maxRecDepth 100000
attribute [local go_sem] max2_int min2_int max_two min_two max_three min_three max_four min_four   -- for this text's walks alone
def card_cube_has.f (a0_0:Int) (a0_1:Int) (a1:Int):Option (Bool):=some ((Go.bits .and .i64 a1 a0_0) == a0_1)
theorem card_cube_has.calls (a0_0:Int) (a0_1:Int) (a1:Int) (r:Bool) (w:World) (h:card_cube_has.f a0_0 a0_1 a1 = some r) :
  Calls Try.prog 70 #[.agg #[.int .i64 a0_0,.int .i64 a0_1],.int .i64 a1] w fun e w'=>e = .returned (.bool r) ∧ Below w.heap.size w w':=by
 have hu96:=Try.underlying96
 have HB:=Aside0.mk (Below.refl w.heap.size w)
 have H:(some ((Go.bits .and .i64 a1 a0_0) == a0_1)) = some r:=h
 clear h
 obtain rfl:=Option.some.inj H
 go_enter Try.func70,Try.ntmps70
 go_wp2_with (first | ((with_reducible refine gate_dst (N:=2) rfl ?_);refine box_event ?hg (N:=2) ?hd (cs:=#[.int .i64 a0_0,.int .i64 a0_1]) (t:=96) ?hr ?_;(case hd=>rfl);(case hg=>rfl);(case hr=>first | (go_simp;done) | (go_simp;rfl));intro gb129 hg w3 hbox hb;have n0_:=Aside0.mk (below_step (by repeat (first | (with_reducible first | exact HB.out | apply below_alloc | apply pw_below_drewN | apply below_drew1) | exact HB.out)) hb);have n1_:=Aside0.mk (hbox);have n2_:=Aside0.mk ((by rw [hg];exact (below_size (by repeat (first | (with_reducible first | exact HB.out | apply below_alloc | apply pw_below_drewN | apply below_drew1) | exact HB.out))):w.heap.size ≤ gb129));have n3_:=Aside0.mk ((by rw [hg];exact (below_size (by repeat (first | (with_reducible first | exact HB.out | apply below_alloc | apply pw_below_drewN | apply below_drew1) | exact HB.out))):w.heap.size ≤ gb129));clear HB;have HB:=n0_;have BK129:=n1_;have GW129:=n2_;have GE129:=n3_;clear n0_ n1_ n2_ n3_;clear hb hbox hg;have hcz4_0:w3.cell? ⟨gb129,0,none⟩ = some (.int .i64 a0_0):=(blk_cell BK129.out 0).trans rfl;have hcz4_1:w3.cell? ⟨gb129,1,none⟩ = some (.int .i64 a0_1):=(blk_cell BK129.out 1).trans rfl;have hfz4_0:=blk_frozen BK129.out 0;have hfz4_1:=blk_frozen BK129.out 1))
 go_ret
 exact ⟨by first | rfl | (simp [errW_none,errW_some] <;> rfl) | (simp [*,errW_none,errW_some] <;> rfl),by repeat (first | (with_reducible first | exact HB.out | apply below_alloc | apply pw_below_drewN | apply below_drew1 | refine below_set ?_ GE129.out) | exact HB.out)⟩
end Go.Proofs.Ythpahlkhiknofaa.G
namespace Go.Proofs.Ythpahlkhiknofaa.H
open Go Go.RowKit Go.Shelf Go.Proofs.Ythpahlkhiknofaa.G Go.Proofs.Ythpahlkhiknofaa.P Go.Proofs.YthpahlkhiknofaaW.PrintWords
/-- What the function says of each cube,in each world that has grown from one. -/
def Says (F:Nat) (b:Addr) (w:World) (φ:S96 → Bool):Prop:=∀ W x,Below w.heap.size w W → Calls Try.prog F #[.agg #[.int .i64 x.f0,.int .i64 x.f1],.pointer (some b)] W fun e W'=>e = .returned (.bool (φ x)) ∧ Below W.heap.size W W'
def FirstI (φ:S96 → Bool) (l:List S96) (i:Int):Prop:=∃ j:Nat,i = (j:Int) ∧ ∃ h:j < l.length,φ l[j] = true ∧ (l.take j).any φ = false
theorem Says.mono {F:Nat} {b:Addr} {w w1:World} {φ:S96 → Bool} (h:Says F b w φ) (hb:Below w.heap.size w w1):Says F b w1 φ:=fun W x hW=>h W x (hb.trans (hW.mono hb.size))
end Go.Proofs.Ythpahlkhiknofaa.H
namespace Go.Proofs.Ythpahlkhiknofaa.H
open Go Go.RowKit Go.Shelf Go.Proofs.Ythpahlkhiknofaa.G Go.Proofs.Ythpahlkhiknofaa.P Go.Proofs.YthpahlkhiknofaaW.PrintWords
attribute [local go_sem] Oper.semAt_some wide_fn
set_option maxHeartbeats 4000000 in
set_option maxRecDepth 100000 in
theorem index114_108 (b:Addr) (φ:S96 → Bool) (A:Option Addr) (c:Nat) (l:List S96) (w:World) (hS:Says 108 b w φ) (hl:Kd.C k96 w A l.length l) (hlen:fitL l) :
  Calls Try.prog 114 #[.slice A l.length c,.func (.func 108) #[] #[.pointer (some b)]] w fun e w'=>∃ i:Int,e = .returned (.int .i64 i) ∧ decide (0 ≤ i) = l.any φ ∧ (0 ≤ i → FirstI φ l i) ∧ (i < 0 → i = -1) ∧ Below w.heap.size w w':=by
 refine (callsIn_wide (n:=9)).1 ?_
 refine callsIn_of_wp Try.func114 rfl trivial ?_
 simp only [Try.ntmps114,List.size_toArray,List.length_cons,List.length_nil,Nat.reduceAdd,Nat.reduceSub,Array.replicate_succ,Array.replicate_zero,List.push_toArray,List.append_toArray,List.nil_append,List.cons_append]
 unfold fitL at hlen
 have HL:=Lib.hid hl
 have HS:=Lib.hid hS
 clear hl hS
 gi_wp2_with fail
 gi_loopg [8] l.length (fun k s8 W=>∃ i:Nat,s8 = .int .i64 (i:Int) ∧ i ≤ l.length ∧ l.length ≤ k + i ∧ Below w.heap.size w W ∧ (l.take i).any φ = false)
 case atStart=>exact ⟨0,rfl,by omega,by omega,Below.refl _ _,rfl⟩
 case round =>
  obtain ⟨i,rfl,hi,hk,hB,hany⟩:=hrel
  have HB:=Lib.hid hB
  have HA:=Lib.hid hany
  clear hB hany
  by_cases hil:i < l.length
  case neg =>
   have:i = l.length:=by omega
   subst this
   gi_wp2_with fail
   refine bodyPost_ret (v:=.int .i64 (-1)) (results_tmp (t:=4) rfl _ _ _) rfl ⟨-1,rfl,?_,fun h=>by omega,fun _=>rfl,HB.out⟩
   have:=HA.out
   rw [List.take_length] at this
   rw [this];simp
  have hI0:(0:Int) ≤ (i:Int):=by omega
  have hI1:(i:Int) < (l.length:Int):=by omega
  obtain ⟨ad,e0,hx0,hx1⟩:=at_T96 HL.out (i:Int) hI0 hI1
  cases e0
  rw [Int.toNat_natCast] at hx0 hx1
  have hc0:=(HB.out.cell (World.block_lt_of_cell? w _ hx0)).trans hx0
  have hc1:=(HB.out.cell (World.block_lt_of_cell? w _ hx1)).trans hx1
  obtain ⟨x,hxe⟩:∃ x,rd_T96 l (i:Int) = x:=⟨_,rfl⟩
  rw [hxe] at hc0 hc1
  have hxi:l[i] = x:=by rw [← hxe];unfold rd_T96;simp [hil]
  have HXE:=Lib.hid hxi
  clear hx0 hx1 hxe hxi
  gi_wp2_with fail
  refine (callsIn_wide.2 (HS.out _ x HB.out)).mono ?_
  rintro e w1 ⟨rfl,hb1⟩
  have HB1:=Lib.hid hb1
  have hs:=HB.out.size
  obtain ⟨q,hq⟩:∃ q,φ x = q:=⟨_,rfl⟩
  rw [hq]
  have HQ:=Lib.hid hq
  clear hb1 hq
  cases q with
  | true =>
   gi_wp2_with fail
   refine bodyPost_ret (v:=.int .i64 (i:Int)) (results_tmp (t:=4) rfl _ _ _) rfl ⟨i,rfl,?_,fun _=>⟨i,rfl,hil,?_,HA.out⟩,fun h=>by omega,HB.out.trans (HB1.out.mono hs)⟩
   ·have:l.any φ = true:=List.any_eq_true.2 ⟨x,by rw [← HXE.out];exact List.getElem_mem hil,HQ.out⟩
    rw [this];simp
   rw [HXE.out];exact HQ.out
  | false =>
   gi_wp2_with fail
   gi_roundg (l.length - (i + 1))
   case measure=>omega
   case rel =>
    refine ⟨i + 1,by simp,by omega,by omega,HB.out.trans (HB1.out.mono hs),?_⟩
    rw [List.take_succ_eq_append_getElem hil,List.any_append,HA.out,HXE.out]
    simp only [List.any_cons,List.any_nil,Bool.or_false,Bool.false_or]
    exact HQ.out
set_option maxHeartbeats 4000000 in
theorem contains107_108 (b:Addr) (φ:S96 → Bool) (A:Option Addr) (c:Nat) (l:List S96) (w:World) (hS:Says 108 b w φ) (hl:Kd.C k96 w A l.length l) (hlen:fitL l) :
  Calls Try.prog 107 #[.slice A l.length c,.func (.func 108) #[] #[.pointer (some b)]] w fun e w'=>e = .returned (.bool (l.any φ)) ∧ Below w.heap.size w w':=by
 refine (callsIn_wide (n:=9)).1 ?_
 refine callsIn_of_wp Try.func107 rfl trivial ?_
 simp only [Try.ntmps107,List.size_toArray,List.length_cons,List.length_nil,Nat.reduceAdd,Nat.reduceSub,Array.replicate_succ,Array.replicate_zero,List.push_toArray,List.append_toArray,List.nil_append,List.cons_append]
 have HI:=Lib.hid (index114_108 b φ A c l w hS hl hlen)
 clear hl hS
 gi_wp2_with fail
 refine (callsIn_wide.2 HI.out).mono ?_
 rintro e w1 ⟨i,rfl,hd,_,_,hb1⟩
 have HD:=Lib.hid hd
 have HB1:=Lib.hid hb1
 clear hd hb1
 gi_wp2_with fail
 refine bodyPost_ret (v:=.bool (decide (0 ≤ i))) (results_tmp (t:=4) rfl _ _ _) rfl ⟨by rw [HD.out],HB1.out⟩
end Go.Proofs.Ythpahlkhiknofaa.H
namespace Go.Proofs.Ythpahlkhiknofaa.H
open Go Go.RowKit Go.Shelf Go.Proofs.Ythpahlkhiknofaa.G Go.Proofs.Ythpahlkhiknofaa.P Go.Proofs.YthpahlkhiknofaaW.PrintWords
attribute [local go_sem] Oper.semAt_some wide_fn
def hasB (x:S96) (p:Int):Bool:=Go.bits .and .i64 p x.f0 == x.f1
set_option maxHeartbeats 2000000 in
theorem says108 (b:Addr) (w:World) (p:Int) (hb:w.cell? b = some (.int .i64 p)):Says 108 b w (fun x=>hasB x p):=by
 intro W x hB
 have hc:=(hB.cell (World.block_lt_of_cell? w _ hb)).trans hb
 refine (callsIn_wide (n:=9)).1 ?_
 refine callsIn_of_wp Try.func108 rfl trivial ?_
 simp only [Try.ntmps108,List.size_toArray,List.length_cons,List.length_nil,Nat.reduceAdd,Nat.reduceSub,Array.replicate_succ,Array.replicate_zero,List.push_toArray,List.append_toArray,List.nil_append,List.cons_append]
 have hb2:=World.block_lt_of_cell? W _ hc
 have HB:=Lib.hid hB
 clear hB
 have hc':=(((Below.refl W.heap.size W).alloc (Nat.le_refl _) (Obj.cells #[Value.int IntKind.i64 x.f0,Value.int IntKind.i64 x.f1] 96)).cell hb2).trans hc
 gi_wp2_with fail
 refine (callsIn_wide.2 (card_cube_has.calls x.f0 x.f1 p (hasB x p) _ rfl)).mono ?_
 rintro e w1 ⟨rfl,hb1⟩
 have HB1:=Lib.hid hb1
 clear hb1
 gi_wp2_with fail
 exact bodyPost_ret (v:=.bool (hasB x p)) (results_tmp (t:=3) rfl _ _ _) rfl ⟨rfl,((Below.refl _ _).alloc (Nat.le_refl _) _).trans (HB1.out.mono (by rw [World.size_alloc];omega))⟩
def badP (s:ByteArray) (l:List S96) (p:Nat):Bool:=(l.any (fun x=>hasB x (p:Int)) && (bt s (p:Int) == 48)) || (!l.any (fun x=>hasB x (p:Int)) && (bt s (p:Int) == 49))
def covB (s:ByteArray) (l:List S96):Bool:=allF (fun p=>!badP s l p) s.size 0
set_option maxHeartbeats 4000000 in
set_option maxRecDepth 100000 in
theorem isCover78 (n:Int) (s:ByteArray) (A:Option Addr) (c:Nat) (l:List S96) (w:World) (hl:Kd.C k96 w A l.length l) (hlen:fitL l) (hsz:s.size ≤ 1000) :
  Calls Try.prog 78 #[.agg #[.int .i64 n,.string s],.slice A l.length c] w fun e w'=>e = .returned (.bool (covB s l)) ∧ Below w.heap.size w w':=by
 refine (callsIn_wide (n:=9)).1 ?_
 refine callsIn_of_wp Try.func78 rfl trivial ?_
 simp only [Try.ntmps78,List.size_toArray,List.length_cons,List.length_nil,Nat.reduceAdd,Nat.reduceSub,Array.replicate_succ,Array.replicate_zero,List.push_toArray,List.append_toArray,List.nil_append,List.cons_append]
 have HL:=Lib.hid hl
 clear hl
 gi_wp2_with fail
 gi_loopg [10] s.size (fun k s10 W=>∃ p:Nat,s10 = .int .i64 (p:Int) ∧ p ≤ s.size ∧ s.size ≤ k + p ∧ Below w.heap.size w W ∧ W.cell? { block:=w.heap.size,off:=1 } = some (.string s) ∧ covB s l = allF (fun p=>!badP s l p) (s.size - p) p)
 case atStart =>
  have h1:=World.alloc_heap_new w (Obj.cells #[Value.int IntKind.i64 n,Value.string s] 81)
  refine ⟨0,rfl,by omega,by omega,(Below.refl _ _).alloc (Nat.le_refl _) _,?_,rfl⟩
  unfold World.cell?;rw [h1];rfl
 case round =>
  obtain ⟨p,rfl,hp,hk,hB,hc,hv⟩:=hrel
  have HB:=Lib.hid hB
  have HC:=Lib.hid hc
  have HV:=Lib.hid hv
  clear hB hc hv
  by_cases hps:p < s.size
  case neg =>
   have:p = s.size:=by omega
   subst this
   gi_wp2_with fail
   refine bodyPost_ret (v:=.bool true) (results_tmp (t:=4) rfl _ _ _) rfl ⟨?_,HB.out⟩
   rw [HV.out,Nat.sub_self];rfl
  gi_wp2_with fail
  have hcp:(wr.alloc (Obj.cells #[Value.int IntKind.i64 (p:Int)] 3)).cell? { block:=wr.heap.size,off:=0 } = some (.int .i64 (p:Int)):=by
   have h:=World.alloc_heap_new wr (Obj.cells #[Value.int IntKind.i64 (p:Int)] 3)
   unfold World.cell?;rw [h];rfl
  have hba:=HB.out.alloc HB.out.size (Obj.cells #[Value.int IntKind.i64 (p:Int)] 3)
  have hcs:=(((Below.refl wr.heap.size wr).alloc (Nat.le_refl _) (Obj.cells #[Value.int IntKind.i64 (p:Int)] 3)).cell (p:={ block:=w.heap.size,off:=1 }) (World.block_lt_of_cell? _ _ HC.out)).trans HC.out
  have hn1:=World.block_lt_of_cell? _ _ hcs
  have hn2:=World.block_lt_of_cell? _ _ hcp
  refine (callsIn_wide.2 (contains107_108 _ (fun x=>hasB x (p:Int)) A c l _ (says108 _ _ (p:Int) hcp) (Kd.C_below HL.out hba) hlen)).mono ?_
  rintro e w5 ⟨rfl,hb5⟩
  have hc5:=(hb5.cell hn1).trans hcs
  have hp5:=(hb5.cell hn2).trans hcp
  have hB5:=hba.trans (hb5.mono hba.size)
  have HB5:=Lib.hid hB5
  have HC5:=Lib.hid hc5
  have hbt:=bt_at s (p:Int)
  obtain ⟨q,hq⟩:∃ q,l.any (fun x=>hasB x (p:Int)) = q:=⟨_,rfl⟩
  rw [hq]
  have hw1:=wrap_succ (i:=p) (by omega)
  have hstep:allF (fun p=>!badP s l p) (s.size - p) p = (!badP s l p && allF (fun p=>!badP s l p) (s.size - (p + 1)) (p + 1)):=by
   rw [show s.size - p = (s.size - (p + 1)) + 1 by omega];rfl
  have HST:=Lib.hid hstep
  have hbad:badP s l p = ((q && (bt s (p:Int) == 48)) || (!q && (bt s (p:Int) == 49))):=by unfold badP;rw [hq]
  have HBAD:=Lib.hid hbad
  obtain ⟨r,hr⟩:∃ r,(bt s (p:Int) == 48) = r:=⟨_,rfl⟩
  obtain ⟨r1,hr1⟩:∃ r,(bt s (p:Int) == 49) = r:=⟨_,rfl⟩
  have HR:=Lib.hid hr
  have HR1:=Lib.hid hr1
  rw [bt_get hps] at hr hr1
  clear hb5 hba hcs hcp hstep hbad hq hB5
  cases q <;> cases r <;> cases r1
  all_goals
   gi_wp2_with fail
   first
   | (refine bodyPost_ret (v:=.bool false) (results_tmp (t:=4) rfl _ _ _) rfl ⟨?_,HB5.out⟩;(rw [HV.out,HST.out,HBAD.out,HR.out,HR1.out]);rfl)
   | (gi_roundg (s.size - (p + 1));(case measure=>(clear hw1;omega));(case rel=>exact ⟨p + 1,by simp [hw1],by clear hw1;omega,by clear hw1;omega,HB5.out,HC5.out,by rw [HV.out,HST.out,HBAD.out,HR.out,HR1.out];rfl⟩))
end Go.Proofs.Ythpahlkhiknofaa.H
namespace Go.Proofs.Ythpahlkhiknofaa.G
open Go Go.RowKit Go.Proofs.YthpahlkhiknofaaW.PrintWords
def card_function_isCover.f (a0_0:Int) (a0_1:ByteArray) (l1:List S96):Option (Bool):=if H.fitL l1 ∧ a0_1.size ≤ 1000 then some (H.covB a0_1 l1) else none
theorem card_function_isCover.calls (a0_0:Int) (a0_1:ByteArray) (A1:Option Addr) (c1:Nat) (l1:List S96) (r:Bool) (w:World) (hr1:Kd.C k96 w A1 l1.length l1) (_:l1.length ≤ c1) (h:card_function_isCover.f a0_0 a0_1 l1 = some r) :
  Calls Try.prog 78 #[.agg #[.int .i64 a0_0,.string a0_1],.slice A1 l1.length c1] w fun e w'=>e = .returned (.bool r) ∧ Below w.heap.size w w':=by
 unfold card_function_isCover.f at h
 by_cases hf:H.fitL l1 ∧ a0_1.size ≤ 1000
 case neg =>
  rw [if_neg hf] at h
  cases h
 rw [if_pos hf] at h
 obtain rfl:=Option.some.inj h
 exact H.isCover78 a0_0 a0_1 A1 c1 l1 w hr1 hf.1 hf.2
end Go.Proofs.Ythpahlkhiknofaa.G
namespace Go.Proofs.Ythpahlkhiknofaa.G
open Go Go.RowKit Go.Proofs.YthpahlkhiknofaaW.PrintWords Go.Proofs.YthpahlkhiknofaaW.PrintLast Go.Proofs.YthpahlkhiknofaaW.PrintMore
theorem R_empty {α:Type} (d:Kd α) {e:Nat} {w:World} {base g:Nat} (h:w.heap[g]? = some (.cells #[] e (0,0))) (hg:base ≤ g):Kd.R d e w base (fun _=>True) (.slice (some ⟨g,0,none⟩) 0 0) []:=by
 refine ⟨fun _ _=>trivial,[],?_,?_⟩
 ·refine ⟨by simp,.inr ⟨g,0,#[],rfl,hg,h,Nat.le_refl _,Nat.zero_le _,by simp,by simp⟩⟩
 exact Reps.none _ _
set_option maxHeartbeats 8000000 in
set_option maxRecDepth 100000 in
theorem clone82 (A:Option Addr) (c:Nat) (l:List S96) (w:World) (hl:Kd.C k96 w A l.length l) (hlc:l.length ≤ c) (hlen:l.length < 1000000) :
  Calls Try.prog 82 #[.slice A l.length c] w fun e w'=>∃ v:Value,e = .returned v ∧ Kd.R k96 96 w' w.heap.size (fun _=>True) v l ∧ Below w.heap.size w w':=by
 have HL:=Lib.hid hl
 have HLC:=Lib.hid hlc
 have HB:=Lib.hid (Below.refl w.heap.size w)
 cases A with
 | none =>
  have h0:l.length = 0:=by
   rcases Nat.eq_zero_or_pos l.length with h | h
   ·exact h
   obtain ⟨ad,e,_⟩:=at_T96 HL.out 0 (by omega) (by omega)
   cases e
  obtain rfl:l = []:=List.eq_nil_of_length_eq_zero h0
  have he:=Lib.run_eql_slice_nil (P:=Try.prog) w 93 96 none 0 c 0 0 Try.underlying93
  go_enter Try.func82,Try.ntmps82
  go_wp2_with fail
  exact bodyPost_ret (v:=.slice none 0 0) (results_tmp (t:=2) rfl _ _ _) rfl ⟨Value.slice none 0 0,rfl,Kd.R_nil _ _ _ _ (fun _=>True),Below.refl _ _⟩
 | some ad =>
  have he:=Lib.run_eql_slice_nil (P:=Try.prog) w 93 96 (some ad) l.length c 0 0 Try.underlying93
  go_enter Try.func82,Try.ntmps82
  have hbe:Below w.heap.size w (w.alloc (Obj.cells #[] 96)):=(Below.refl _ _).alloc (Nat.le_refl _) _
  have hh:=World.alloc_heap_new w (Obj.cells #[] 96)
  have HE:=Lib.hid (R_empty (e:=96) k96 (w:=w.alloc (Obj.cells #[] 96)) (base:=w.heap.size) (g:=w.heap.size) hh (Nat.le_refl _))
  go_wp2_with ((with_reducible refine gate_builtin (b:=.append) (xs:=#[.tmp 5,.tmp 6]) rfl ?_);at_builtin;refine Kd.R_append_rows k96 (w0:=w) w.heap.size rfl (.tmp 5) (.tmp 6) 93 96 (.agg #[.int .i64 0,.int .i64 0]) 16 rfl Try.underlying93 info96 rfl (by decide) (by omega) (.slice (some ⟨w.heap.size,0,none⟩) 0 0) ([]:List S96) l _ _ _ (fun _=>True) (fun _=>False) rfl rfl ?aO ?aR (fun _ _ h=>h) (fun _ h=>h.elim) ?aF ?aB ?aS ?aL ?_;(case aO=>exact HE.out);(case aR=>exact Kd.C_alloc HL.out _);(case aF=>exact fun _ _=>trivial);(case aB=>exact hbe);(case aS=>exact hbe.size);(case aL=>simp only [List.length_nil];omega);intro v106 w7 ho hb hg hat;have HO:=Lib.hid ho;have HB7:=Lib.hid hb;clear ho hb hg hat)
  exact bodyPost_ret (v:=v106) (results_tmp (t:=2) rfl _ _ _) rfl ⟨v106,rfl,HO.out,HB7.out⟩
end Go.Proofs.Ythpahlkhiknofaa.G
namespace Go.Proofs.Ythpahlkhiknofaa.G
open Go Go.RowKit Go.Proofs.YthpahlkhiknofaaW.PrintWords
/-- The bounds under which the walk was told. -/
def okT (s:ByteArray) (n:Int) (t:ByteArray) (ok:Bool):Prop:=s = t ∧ s.size ≤ 1000 ∧ (ok = true → 0 ≤ n ∧ n ≤ 5)
instance (s:ByteArray) (n:Int) (t:ByteArray) (ok:Bool):Decidable (okT s n t ok):=by unfold okT;exact inferInstance
end Go.Proofs.Ythpahlkhiknofaa.G
namespace Go.Proofs.Ythpahlkhiknofaa.G
open Go.RowKit Go.Proofs.YthpahlkhiknofaaW.PrintWords Go.Proofs.YthpahlkhiknofaaW.PrintLast Go.Proofs.YthpahlkhiknofaaW.PrintMore
set_option maxHeartbeats 8000000
set_option maxRecDepth 100000
attribute [local go_sem] max2_int min2_int max_two min_two max_three min_three max_four min_four   -- for this text's walks alone
def numnahref01_Cube.l0:Nat → ByteArray → Int → Int → Option (Bool)
 | 0,_,_,_=>none
 | k + 1,x0,x1,x5=>if x5 < (x0.size:Int) then (if 0 ≤ x5 then (if (bt x0 x5) = 48 then (numnahref01_Cube.l0 k x0 x1 (wrap64 (x5 + 1))) else (if (bt x0 x5) = 49 then (numnahref01_Cube.l0 k x0 x1 (wrap64 (x5 + 1))) else (if (bt x0 x5) = 45 then (numnahref01_Cube.l0 k x0 x1 (wrap64 (x5 + 1))) else (some false)))) else (none)) else (some ((x0.size:Int) == x1))
def numnahref01_Cube.f (k:Nat) (a0:ByteArray) (a1:Int):Option (Bool):=numnahref01_Cube.l0 k a0 a1 0
theorem numnahref01_Cube.mono_l:∀ k,(∀ y0 y1 y2,LeO (numnahref01_Cube.l0 k y0 y1 y2) (numnahref01_Cube.l0 (k + 1) y0 y1 y2))
 | 0=>fun _ _ _ r h=>by simp [numnahref01_Cube.l0] at h
 | k + 1=>by
  have ih0:=numnahref01_Cube.mono_l k
  intro y0 y1 y2
  unfold numnahref01_Cube.l0
  repeat' first
  | (with_reducible exact ih0 _ _ _)
  | (with_reducible exact LeO.refl _)
  | (with_reducible exact LeO.none _)
  | (with_reducible refine LeO.ite ?_ ?_)
  | (with_reducible refine LeO.bind ?_ (fun _=>?_))
  | exact ih0 _ _ _
  | exact LeO.none _
  | refine LeO.ite ?_ ?_
  | refine LeO.bind ?_ (fun _=>?_)
theorem numnahref01_Cube.mono:∀ a0 a1 k,LeO (numnahref01_Cube.f k a0 a1) (numnahref01_Cube.f (k + 1) a0 a1):=by
 intro a0 a1 k
 have ih0:=numnahref01_Cube.mono_l k
 unfold numnahref01_Cube.f
 repeat' first
   | (with_reducible exact ih0 _ _ _)
   | (with_reducible exact LeO.refl _)
   | (with_reducible exact LeO.none _)
   | (with_reducible refine LeO.ite ?_ ?_)
   | (with_reducible refine LeO.bind ?_ (fun _=>?_))
   | exact ih0 _ _ _
   | exact LeO.none _
   | refine LeO.ite ?_ ?_
   | refine LeO.bind ?_ (fun _=>?_)
theorem numnahref01_Cube.calls (k:Nat) (a0:ByteArray) (a1:Int) (r:Bool) (w:World) (h:numnahref01_Cube.f k a0 a1 = some r) :
  Calls Try.prog 30 #[.string a0,.int .i64 a1] w fun e w'=>e = .returned (.bool r) ∧ Drawn0 w w':=by
 have H:(numnahref01_Cube.l0 k a0 a1 0) = some r:=h
 clear h
 have H':=Aside0.mk H
 clear H
 go_enter Try.func30,Try.ntmps30
 go_wp2
 go_loopg [5] k (fun kq v5 w'=>∃ (x5_1:Int),v5 = .int .i64 x5_1 ∧ Aside0 (numnahref01_Cube.l0 kq a0 a1 x5_1 = some r) ∧ Aside0 (kq ≤ k) ∧ Drawn0 w w')
 case atStart=>exact ⟨(0),(by first | rfl | (simp;done) | (simp [*];done)),H',⟨Nat.le_refl _⟩,by repeat (first | exact Drawn0.refl _ | apply Drawn0.step)⟩
 case round =>
  clear H'
  try clear p2
  obtain ⟨x5_1,rfl,HA,HK1,⟨m1,rfl⟩⟩:=hrel
  cases gk with
  | zero=>exact absurd HA.out (by simp [numnahref01_Cube.l0])
  | succ k1 =>
   have H:=HA.out
   clear HA
   simp only [numnahref01_Cube.l0] at H
   by_cases c3:x5_1 < (a0.size:Int)
   case neg =>
    rw [if_neg c3] at H
    have c3b0:decide (x5_1 < (a0.size:Int)) = false:=decide_eq_false c3
    clear c3
    obtain rfl:=Option.some.inj H
    go_wp2
    go_ret
    exact ⟨by first | rfl | (simp;done) | (simp [*];done),by repeat (first | exact Drawn0.refl _ | apply Drawn0.step)⟩
   rw [if_pos c3] at H
   have c3b0:decide (x5_1 < (a0.size:Int)) = true:=decide_eq_true c3
   clear c3
   by_cases c4:0 ≤ x5_1
   case neg =>
    rw [if_neg c4] at H
    exact absurd H (by simp)
   rw [if_pos c4] at H
   have c4b0:decide (0 ≤ x5_1) = true:=decide_eq_true c4
   clear c4
   by_cases c6:(bt a0 x5_1) = 48
   ·rw [if_pos c6] at H
    have c6b0:((bt a0 x5_1) == 48) = true:=beq_iff_eq.mpr c6
    have c6b1:((bt a0 x5_1) != 48) = false:=bne_eq_false_iff_eq.mpr c6
    clear c6
    have H':=Aside0.mk H
    clear H
    have p5:0 ≤ (x5_1:Int):=of_decide_eq_true (by first | (with_reducible assumption) | assumption)
    have q5:x5_1 < (a0.size:Int):=of_decide_eq_true (by first | (with_reducible assumption) | assumption)
    have hx5:=bt_at a0 x5_1
    replace p5:=eq_true p5
    replace q5:=eq_true q5
    go_wp2
    go_roundg k1
    case measure=>have:=HK1.out;omega
    case rel=>exact ⟨(wrap64 (x5_1 + 1)),(by first | rfl | (simp;done) | (simp [*];done)),H',⟨by have:=HK1.out;omega⟩,by repeat (first | exact Drawn0.refl _ | apply Drawn0.step)⟩
   rw [if_neg c6] at H
   have c6b0:((bt a0 x5_1) == 48) = false:=beq_eq_false_iff_ne.mpr c6
   have c6b1:((bt a0 x5_1) != 48) = true:=bne_iff_ne.mpr c6
   by_cases c8:(bt a0 x5_1) = 49
   ·rw [if_pos c8] at H
    have c8b0:((bt a0 x5_1) == 49) = true:=beq_iff_eq.mpr c8
    have c8b1:((bt a0 x5_1) != 49) = false:=bne_eq_false_iff_eq.mpr c8
    clear c8
    have H':=Aside0.mk H
    clear H
    have p5:0 ≤ (x5_1:Int):=of_decide_eq_true (by first | (with_reducible assumption) | assumption)
    have q5:x5_1 < (a0.size:Int):=of_decide_eq_true (by first | (with_reducible assumption) | assumption)
    have hx5:=bt_at a0 x5_1
    replace p5:=eq_true p5
    replace q5:=eq_true q5
    have p7:0 ≤ (x5_1:Int):=of_decide_eq_true (by first | (with_reducible assumption) | assumption)
    have q7:x5_1 < (a0.size:Int):=of_decide_eq_true (by first | (with_reducible assumption) | assumption)
    have hx7:=bt_at a0 x5_1
    replace p7:=eq_true p7
    replace q7:=eq_true q7
    go_wp2
    go_roundg k1
    case measure=>have:=HK1.out;omega
    case rel=>exact ⟨(wrap64 (x5_1 + 1)),(by first | rfl | (simp;done) | (simp [*];done)),H',⟨by have:=HK1.out;omega⟩,by repeat (first | exact Drawn0.refl _ | apply Drawn0.step)⟩
   rw [if_neg c8] at H
   have c8b0:((bt a0 x5_1) == 49) = false:=beq_eq_false_iff_ne.mpr c8
   have c8b1:((bt a0 x5_1) != 49) = true:=bne_iff_ne.mpr c8
   by_cases c10:(bt a0 x5_1) = 45
   case neg =>
    rw [if_neg c10] at H
    have c10b0:((bt a0 x5_1) == 45) = false:=beq_eq_false_iff_ne.mpr c10
    have c10b1:((bt a0 x5_1) != 45) = true:=bne_iff_ne.mpr c10
    obtain rfl:=Option.some.inj H
    have p5:0 ≤ (x5_1:Int):=of_decide_eq_true (by first | (with_reducible assumption) | assumption)
    have q5:x5_1 < (a0.size:Int):=of_decide_eq_true (by first | (with_reducible assumption) | assumption)
    have hx5:=bt_at a0 x5_1
    replace p5:=eq_true p5
    replace q5:=eq_true q5
    have p7:0 ≤ (x5_1:Int):=of_decide_eq_true (by first | (with_reducible assumption) | assumption)
    have q7:x5_1 < (a0.size:Int):=of_decide_eq_true (by first | (with_reducible assumption) | assumption)
    have hx7:=bt_at a0 x5_1
    replace p7:=eq_true p7
    replace q7:=eq_true q7
    have p9:0 ≤ (x5_1:Int):=of_decide_eq_true (by first | (with_reducible assumption) | assumption)
    have q9:x5_1 < (a0.size:Int):=of_decide_eq_true (by first | (with_reducible assumption) | assumption)
    have hx9:=bt_at a0 x5_1
    replace p9:=eq_true p9
    replace q9:=eq_true q9
    go_wp2
    go_ret
    exact ⟨by first | rfl | (simp;done) | (simp [*];done),by repeat (first | exact Drawn0.refl _ | apply Drawn0.step)⟩
   rw [if_pos c10] at H
   have c10b0:((bt a0 x5_1) == 45) = true:=beq_iff_eq.mpr c10
   have c10b1:((bt a0 x5_1) != 45) = false:=bne_eq_false_iff_eq.mpr c10
   clear c10
   have H':=Aside0.mk H
   clear H
   have p5:0 ≤ (x5_1:Int):=of_decide_eq_true (by first | (with_reducible assumption) | assumption)
   have q5:x5_1 < (a0.size:Int):=of_decide_eq_true (by first | (with_reducible assumption) | assumption)
   have hx5:=bt_at a0 x5_1
   replace p5:=eq_true p5
   replace q5:=eq_true q5
   have p7:0 ≤ (x5_1:Int):=of_decide_eq_true (by first | (with_reducible assumption) | assumption)
   have q7:x5_1 < (a0.size:Int):=of_decide_eq_true (by first | (with_reducible assumption) | assumption)
   have hx7:=bt_at a0 x5_1
   replace p7:=eq_true p7
   replace q7:=eq_true q7
   have p9:0 ≤ (x5_1:Int):=of_decide_eq_true (by first | (with_reducible assumption) | assumption)
   have q9:x5_1 < (a0.size:Int):=of_decide_eq_true (by first | (with_reducible assumption) | assumption)
   have hx9:=bt_at a0 x5_1
   replace p9:=eq_true p9
   replace q9:=eq_true q9
   go_wp2
   go_roundg k1
   case measure=>have:=HK1.out;omega
   case rel=>exact ⟨(wrap64 (x5_1 + 1)),(by first | rfl | (simp;done) | (simp [*];done)),H',⟨by have:=HK1.out;omega⟩,by repeat (first | exact Drawn0.refl _ | apply Drawn0.step)⟩
def card_newCube.l0:Nat → ByteArray → Int → Int → Int → Int → Option (Int × Int × Bool)
 | 0,_,_,_,_,_=>none
 | k + 1,x0,x7,x8,x251000,x251001=>if x8 < x7 then (if 0 ≤ x8 then (if x8 < (x0.size:Int) then (if (bt x0 x8) = 48 then (if x8 ≥ 5 then (some (0,0,false)) else (card_newCube.l0 k x0 x7 (wrap64 (x8 + 1)) (Go.bits .or .i64 x251000 (shl .i64 1 x8)) x251001)) else (if (bt x0 x8) = 49 then (if x8 ≥ 5 then (some (0,0,false)) else (card_newCube.l0 k x0 x7 (wrap64 (x8 + 1)) (Go.bits .or .i64 x251000 (shl .i64 1 x8)) (Go.bits .or .i64 x251001 (shl .i64 1 x8)))) else (if (bt x0 x8) = 45 then (if x8 ≥ 5 then (some (0,0,false)) else (card_newCube.l0 k x0 x7 (wrap64 (x8 + 1)) x251000 x251001)) else (some (0,0,false))))) else (none)) else (none)) else (some (x251000,x251001,(x0.toList != ([]:List UInt8))))
def card_newCube.f (k:Nat) (a0:ByteArray):Option (Int × Int × Bool):=card_newCube.l0 k a0 (a0.size:Int) 0 0 0
theorem card_newCube.mono_l:∀ k,(∀ y0 y1 y2 y3 y4,LeO (card_newCube.l0 k y0 y1 y2 y3 y4) (card_newCube.l0 (k + 1) y0 y1 y2 y3 y4))
 | 0=>fun _ _ _ _ _ r h=>by simp [card_newCube.l0] at h
 | k + 1=>by
  have ih0:=card_newCube.mono_l k
  intro y0 y1 y2 y3 y4
  unfold card_newCube.l0
  repeat' first
  | (with_reducible exact ih0 _ _ _ _ _)
  | (with_reducible exact LeO.refl _)
  | (with_reducible exact LeO.none _)
  | (with_reducible refine LeO.ite ?_ ?_)
  | (with_reducible refine LeO.bind ?_ (fun _=>?_))
  | exact ih0 _ _ _ _ _
  | exact LeO.none _
  | refine LeO.ite ?_ ?_
  | refine LeO.bind ?_ (fun _=>?_)
theorem card_newCube.mono:∀ a0 k,LeO (card_newCube.f k a0) (card_newCube.f (k + 1) a0):=by
 intro a0 k
 have ih0:=card_newCube.mono_l k
 unfold card_newCube.f
 repeat' first
   | (with_reducible exact ih0 _ _ _ _ _)
   | (with_reducible exact LeO.refl _)
   | (with_reducible exact LeO.none _)
   | (with_reducible refine LeO.ite ?_ ?_)
   | (with_reducible refine LeO.bind ?_ (fun _=>?_))
   | exact ih0 _ _ _ _ _
   | exact LeO.none _
   | refine LeO.ite ?_ ?_
   | refine LeO.bind ?_ (fun _=>?_)
theorem card_newCube.calls (k:Nat) (a0:ByteArray) (r1:Int) (r2:Int) (r3:Bool) (w:World) (h:card_newCube.f k a0 = some (r1,r2,r3)) :
  Calls Try.prog 69 #[.string a0] w fun e w'=>e = .returned (.tuple #[.agg #[.int .i64 r1,.int .i64 r2],.bool r3]) ∧ Below w.heap.size w w':=by
 have hu96:=Try.underlying96
 have HB:=Aside0.mk (Below.refl w.heap.size w)
 have H:(card_newCube.l0 k a0 (a0.size:Int) 0 0 0) = some (r1,r2,r3):=h
 clear h
 have H':=Aside0.mk H
 clear H
 go_enter Try.func69,Try.ntmps69
 go_wp2_with (first | ((with_reducible refine gate_dst (N:=2) rfl ?_);refine box_event ?hg (N:=2) ?hd (cs:=#[.int .i64 0,.int .i64 0]) (t:=96) ?hr ?_;(case hd=>rfl);(case hg=>rfl);(case hr=>first | (go_simp;done) | (go_simp;rfl));intro gb249 hg w2 hbox hb;have n0_:=Aside0.mk (below_step (by repeat (first | (with_reducible first | exact HB.out | apply below_alloc | apply pw_below_drewN | apply below_drew1) | exact HB.out)) hb);have n1_:=Aside0.mk (hbox);have n2_:=Aside0.mk ((by rw [hg];exact (below_size (by repeat (first | (with_reducible first | exact HB.out | apply below_alloc | apply pw_below_drewN | apply below_drew1) | exact HB.out))):w.heap.size ≤ gb249));have n3_:=Aside0.mk ((by rw [hg];exact (below_size (by repeat (first | (with_reducible first | exact HB.out | apply below_alloc | apply pw_below_drewN | apply below_drew1) | exact HB.out))):w.heap.size ≤ gb249));clear HB;have HB:=n0_;have BK249:=n1_;have GW249:=n2_;have GE249:=n3_;clear n0_ n1_ n2_ n3_;clear hb hbox hg) | ((with_reducible refine gate_dst (N:=4) rfl ?_);refine box_event ?hg (N:=4) ?hd (cs:=#[.int .i64 0,.int .i64 0]) (t:=96) ?hr ?_;(case hd=>rfl);(case hg=>rfl);(case hr=>first | (go_simp;done) | (go_simp;rfl));intro gb250 hg w3 hbox hb;have n0_:=Aside0.mk (blk_below (g:=gb249) (o:=.cells #[.int .i64 0,.int .i64 0] 96 (0,0)) (by (with_reducible repeat (first | refine blk_drewN ?_ _ | refine blk_drew ?_ | refine blk_alloc ?_ _));exact BK249.out) hb);have n1_:=Aside0.mk (below_step (by repeat (first | (with_reducible first | exact HB.out | apply below_alloc | apply pw_below_drewN | apply below_drew1 | refine below_set ?_ GE249.out) | exact HB.out)) hb);have n2_:=Aside0.mk (hbox);have n3_:=Aside0.mk ((by rw [hg];exact (below_size (by repeat (first | (with_reducible first | exact HB.out | apply below_alloc | apply pw_below_drewN | apply below_drew1 | refine below_set ?_ GE249.out) | exact HB.out))):w.heap.size ≤ gb250));have n4_:=Aside0.mk ((by rw [hg];exact (below_size (by repeat (first | (with_reducible first | exact HB.out | apply below_alloc | apply pw_below_drewN | apply below_drew1 | refine below_set ?_ GE249.out) | exact HB.out))):w.heap.size ≤ gb250));have n5_:=Aside0.mk ((by rw [hg];exact Nat.ne_of_lt (blk_lt (g:=gb249) (o:=.cells #[.int .i64 0,.int .i64 0] 96 (0,0)) (by (with_reducible repeat (first | refine blk_drewN ?_ _ | refine blk_drew ?_ | refine blk_alloc ?_ _));exact BK249.out)):gb249 ≠ gb250));have n6_:=Aside0.mk ((by rw [hg];exact Nat.ne_of_gt (blk_lt (g:=gb249) (o:=.cells #[.int .i64 0,.int .i64 0] 96 (0,0)) (by (with_reducible repeat (first | refine blk_drewN ?_ _ | refine blk_drew ?_ | refine blk_alloc ?_ _));exact BK249.out)):gb250 ≠ gb249));clear BK249;clear HB;have BK249:=n0_;have HB:=n1_;have BK250:=n2_;have GW250:=n3_;have GE250:=n4_;have NB249_250:=n5_;have NB250_249:=n6_;clear n0_ n1_ n2_ n3_ n4_ n5_ n6_;clear hb hbox hg))
 go_loopg [8] k (fun kq v8 w'=>∃ (x8_1:Int) (x250000_1:Int) (x250001_1:Int) (x251000_1:Int) (x251001_1:Int),v8 = .int .i64 x8_1 ∧ Aside0 (card_newCube.l0 kq a0 (a0.size:Int) x8_1 x251000_1 x251001_1 = some (r1,r2,r3)) ∧ Aside0 (kq ≤ k) ∧ Aside0 (w'.heap[gb249]? = some (.cells #[.int .i64 x250000_1,.int .i64 x250001_1] 96 (0,0))) ∧ Aside0 (w'.heap[gb250]? = some (.cells #[.int .i64 x251000_1,.int .i64 x251001_1] 96 (0,0))) ∧ Aside0 (Below w.heap.size w w'))
 case atStart=>exact ⟨(0),(0),(0),(0),(0),(by first | rfl | (simp;done) | (simp [*];done)),H',⟨Nat.le_refl _⟩,⟨by (with_reducible repeat (first | refine blk_drewN ?_ _ | refine blk_drew ?_ | refine blk_alloc ?_ _));exact BK249.out⟩,⟨by (with_reducible repeat (first | refine blk_drewN ?_ _ | refine blk_drew ?_ | refine blk_alloc ?_ _));exact BK250.out⟩,⟨by repeat (first | (with_reducible first | exact HB.out | apply below_alloc | apply pw_below_drewN | apply below_drew1 | refine below_set ?_ GE249.out | refine below_set ?_ GE250.out) | exact HB.out)⟩⟩
 case round =>
  clear H'
  try clear p2
  obtain ⟨x8_1,x250000_1,x250001_1,x251000_1,x251001_1,rfl,HA,HK1,BK249,BK250,HB⟩:=hrel
  cases gk with
  | zero=>exact absurd HA.out (by simp [card_newCube.l0])
  | succ k1 =>
   have H:=HA.out
   clear HA
   simp only [card_newCube.l0] at H
   by_cases c4:x8_1 < (a0.size:Int)
   case neg =>
    rw [if_neg c4] at H
    have c4b0:decide (x8_1 < (a0.size:Int)) = false:=decide_eq_false c4
    clear c4
    simp only [Option.some.injEq,Prod.mk.injEq] at H
    obtain ⟨rfl,rfl,rfl⟩:=H
    have hnb41:=NB250_249.out
    have hnc41:=NB249_250.out
    have hcz42_0:wr.cell? ⟨gb250,0,none⟩ = some (.int .i64 x251000_1):=(blk_cell BK250.out 0).trans rfl
    have hcz42_1:wr.cell? ⟨gb250,1,none⟩ = some (.int .i64 x251001_1):=(blk_cell BK250.out 1).trans rfl
    have hfz42_0:=blk_frozen BK250.out 0
    have hfz42_1:=blk_frozen BK250.out 1
    have hcz43_0:wr.cell? ⟨gb249,0,none⟩ = some (.int .i64 x250000_1):=(blk_cell BK249.out 0).trans rfl
    have hcz43_1:wr.cell? ⟨gb249,1,none⟩ = some (.int .i64 x250001_1):=(blk_cell BK249.out 1).trans rfl
    have hfz43_0:=blk_frozen BK249.out 0
    have hfz43_1:=blk_frozen BK249.out 1
    go_wp2
    refine bodyPost_ret (results_ct rfl _ _ gb249 96 #[.int .i64 x251000_1,.int .i64 x251001_1] (0,0) _ rfl (by (with_reducible repeat (first | refine blk_drewN ?_ _ | refine blk_drew ?_ | refine blk_alloc ?_ _));refine blk_put (cs:=#[.int .i64 x251000_1,.int .i64 x250001_1]) ?_ 1 _ rfl;(with_reducible repeat (first | refine blk_drewN ?_ _ | refine blk_drew ?_ | refine blk_alloc ?_ _));refine blk_put (cs:=#[.int .i64 x250000_1,.int .i64 x250001_1]) ?_ 0 _ rfl;(with_reducible repeat (first | refine blk_drewN ?_ _ | refine blk_drew ?_ | refine blk_alloc ?_ _));exact BK249.out) Try.underlying96 rfl (by kernel_rfl)) rfl ?_
    exact ⟨by first | rfl | (simp [errW_none,errW_some] <;> rfl) | (simp [*,errW_none,errW_some] <;> rfl) | (simp;cases a0.toList <;> rfl),by repeat (first | (with_reducible first | exact HB.out | apply below_alloc | apply pw_below_drewN | apply below_drew1 | refine below_set ?_ GE249.out | refine below_set ?_ GE250.out) | exact HB.out)⟩
   rw [if_pos c4] at H
   have c4b0:decide (x8_1 < (a0.size:Int)) = true:=decide_eq_true c4
   clear c4
   by_cases c5:0 ≤ x8_1
   case neg =>
    rw [if_neg c5] at H
    exact absurd H (by simp)
   rw [if_pos c5] at H
   have c5b0:decide (0 ≤ x8_1) = true:=decide_eq_true c5
   clear c5
   by_cases c6:x8_1 < (a0.size:Int)
   case neg =>
    rw [if_neg c6] at H
    exact absurd H (by simp)
   rw [if_pos c6] at H
   have c6b0:decide (x8_1 < (a0.size:Int)) = true:=decide_eq_true c6
   clear c6
   by_cases c8:(bt a0 x8_1) = 48
   ·rw [if_pos c8] at H
    have c8b0:((bt a0 x8_1) == 48) = true:=beq_iff_eq.mpr c8
    have c8b1:((bt a0 x8_1) != 48) = false:=bne_eq_false_iff_eq.mpr c8
    clear c8
    have c9b0:=eq_true (of_decide_eq_true (by first | (with_reducible assumption) | assumption):0 ≤ x8_1)
    obtain ⟨ji10,hji10⟩:∃ j_:Int,(shl .i64 1 x8_1) = j_:=⟨_,rfl⟩
    replace H:(if x8_1 ≥ 5 then (some (0,0,false)) else (card_newCube.l0 k1 a0 (a0.size:Int) (wrap64 (x8_1 + 1)) (Go.bits .or .i64 x251000_1 (ji10)) x251001_1)) = some (r1,r2,r3):=by first | (rw [hji10] at H;exact H) | (simp only [hji10] at H ⊢;exact H)
    have hji10_:(IntKind.i64.wrap (1 * 2 ^ min x8_1.toNat 64)) = ji10:=hji10
    have hji10z:x8_1 ≤ 64 → (IntKind.i64.wrap (1 * 2 ^ x8_1.toNat)) = ji10:=shl_small hji10
    have hji10u:(IntKind.i64.wrap (2 ^ min x8_1.toNat 64)) = ji10:=by have h_:=hji10_;rw [Int.one_mul] at h_;exact h_
    have hji10v:x8_1 ≤ 64 → (IntKind.i64.wrap (2 ^ x8_1.toNat)) = ji10:=fun hle_=>by have h_:=hji10z hle_;rw [Int.one_mul] at h_;exact h_
    have hji10y:(wrap64 (1 * 2 ^ min x8_1.toNat 64)) = ji10:=(i64_w _).symm.trans hji10_
    have hji10x:x8_1 ≤ 64 → (wrap64 (1 * 2 ^ x8_1.toNat)) = ji10:=fun h_=>(i64_w _).symm.trans (hji10z h_)
    by_cases c11:x8_1 ≥ 5
    case neg =>
     rw [if_neg c11] at H
     have c11b0:decide (5 ≤ x8_1) = false:=decide_eq_false c11
     clear c11
     have H':=Aside0.mk H
     clear H
     have p7:0 ≤ (x8_1:Int):=of_decide_eq_true (by first | (with_reducible assumption) | assumption)
     have q7:x8_1 < (a0.size:Int):=of_decide_eq_true (by first | (with_reducible assumption) | assumption)
     have hx7:=bt_at a0 x8_1
     replace p7:=eq_true p7
     replace q7:=eq_true q7
     try go_wp2
     have n0_:=Aside0.mk (blk_drew BK249.out)
     have n1_:=Aside0.mk (blk_drew BK250.out)
     have n2_:=Aside0.mk (below_drew1 HB.out)
     clear BK249
     clear BK250
     clear HB
     have BK249:=n0_
     have BK250:=n1_
     have HB:=n2_
     clear n0_ n1_ n2_
     refine start_ (n:=7) (S:=fun w'=>w'.cell? ⟨gb250,0,none⟩ = some (.int .i64 x251000_1) ∧ w'.cell? ⟨gb250,1,none⟩ = some (.int .i64 x251001_1)) (ds:=[6]) #[false,false,false,false,false,false,false] (by kernel_rfl) rfl rfl ⟨(blk_cell BK250.out 0).trans rfl,(blk_cell BK250.out 1).trans rfl⟩ (fun hHeld=>?_)
     generalize wr.drew = w16 at BK249 BK250 HB hHeld ⊢
     refine pure_ (i:=0) (N:=some 17) (v:=?_) (a':=?_) #[true,false,false,false,false,false,false] rfl rfl (by kernel_rfl) (fun _ _ _ h=>h) (Or.inl ⟨by rfl,?_⟩) ?_ ?_
     rotate_left
     ·intro w'
      go_simp
      with_reducible rfl
     rotate_left
     ·simp only [Act.put,List.setIfInBounds_toArray,List.set_cons_zero,List.set_cons_succ,i64_w,i32_w]
      rfl
     refine pure_ (i:=2) (N:=some 19) (v:=?_) (a':=?_) #[true,false,true,false,false,false,false] rfl rfl (by kernel_rfl) (fun _ _ _ h=>h) (Or.inl ⟨by rfl,?_⟩) ?_ ?_
     rotate_left
     ·intro w'
      go_simp
      with_reducible rfl
     rotate_left
     ·simp only [Act.put,List.setIfInBounds_toArray,List.set_cons_zero,List.set_cons_succ,i64_w,i32_w]
      rfl
     refine pure_ (i:=3) (N:=some 20) (v:=?_) (a':=?_) #[true,false,true,true,false,false,false] rfl rfl (by kernel_rfl) (fun _ _ _ h=>h) (Or.inl ⟨by rfl,?_⟩) ?_ ?_
     rotate_left
     ·intro w'
      go_simp
      with_reducible rfl
     rotate_left
     ·simp only [Act.put,List.setIfInBounds_toArray,List.set_cons_zero,List.set_cons_succ,i64_w,i32_w]
      rfl
     refine take_ (i:=1) (N:=some 18) (v:=?_) (a':=?_) #[true,true,true,true,false,false,false] rfl rfl (by kernel_rfl) (fun _ _ _ h=>h) (Or.inl ⟨by rfl,?_⟩) hHeld ?_ ?_
     rotate_left
     ·rintro w' ⟨s0,s1⟩
      go_simp
      with_reducible rfl
     rotate_left
     ·simp only [Act.put,List.setIfInBounds_toArray,List.set_cons_zero,List.set_cons_succ,i64_w,i32_w]
      rfl
     refine pure_ (i:=4) (N:=some 21) (v:=?_) (a':=?_) #[true,true,true,true,true,false,false] rfl rfl (by kernel_rfl) (fun _ _ _ h=>h) (Or.inl ⟨by rfl,?_⟩) ?_ ?_
     rotate_left
     ·intro w'
      go_simp
      with_reducible rfl
     rotate_left
     ·simp only [Act.put,List.setIfInBounds_toArray,List.set_cons_zero,List.set_cons_succ,i64_w,i32_w]
      rfl
     refine pure_ (i:=5) (N:=some 22) (v:=?_) (a':=?_) #[true,true,true,true,true,true,false] rfl rfl (by kernel_rfl) (fun _ _ _ h=>h) (Or.inl ⟨by rfl,?_⟩) ?_ ?_
     rotate_left
     ·intro w'
      go_simp
      with_reducible rfl
     rotate_left
     ·simp only [Act.put,List.setIfInBounds_toArray,List.set_cons_zero,List.set_cons_succ,i64_w,i32_w]
      rfl
     refine last_ (i:=6) (N:=none) #[true,true,true,true,true,true,true] rfl rfl (by kernel_rfl) (by decide) (fun K hK=>?_)
     have hs17:w16.cell? ⟨gb250,0,none⟩ = some (.int .i64 x251000_1):=(blk_cell BK250.out 0).trans rfl
     have hfs17:=blk_frozen BK250.out 0
     have hns17_0:=NB249_250.out
     have hms17_0:=NB250_249.out
     refine skip_ (w1:=?_) (by rfl) rfl ?_ ?_
     rotate_left
     ·go_simp
      rfl
     refine hK.out _ _ ?_
     clear hK K
     refine done_ (by kernel_rfl) ?_
     try go_wp2
     go_roundg k1
     case measure=>have:=HK1.out;omega
     case rel=>exact ⟨(wrap64 (x8_1 + 1)),(x250000_1),(x250001_1),(Go.bits .or .i64 x251000_1 (ji10)),(x251001_1),(by first | rfl | (simp;done) | (simp [*];done)),H',⟨by have:=HK1.out;omega⟩,⟨by (with_reducible repeat (first | refine blk_drewN ?_ _ | refine blk_drew ?_ | refine blk_alloc ?_ _));refine blk_far ?_ NB249_250.out _;(with_reducible repeat (first | refine blk_drewN ?_ _ | refine blk_drew ?_ | refine blk_alloc ?_ _));exact BK249.out⟩,⟨by (with_reducible repeat (first | refine blk_drewN ?_ _ | refine blk_drew ?_ | refine blk_alloc ?_ _));refine blk_put (cs:=#[.int .i64 x251000_1,.int .i64 x251001_1]) ?_ 0 _ rfl;(with_reducible repeat (first | refine blk_drewN ?_ _ | refine blk_drew ?_ | refine blk_alloc ?_ _));exact BK250.out⟩,⟨by repeat (first | (with_reducible first | exact HB.out | apply below_alloc | apply pw_below_drewN | apply below_drew1 | refine below_set ?_ GE249.out | refine below_set ?_ GE250.out) | exact HB.out)⟩⟩
    rw [if_pos c11] at H
    have c11b0:decide (5 ≤ x8_1) = true:=decide_eq_true c11
    clear c11
    simp only [Option.some.injEq,Prod.mk.injEq] at H
    obtain ⟨rfl,rfl,rfl⟩:=H
    have p7:0 ≤ (x8_1:Int):=of_decide_eq_true (by first | (with_reducible assumption) | assumption)
    have q7:x8_1 < (a0.size:Int):=of_decide_eq_true (by first | (with_reducible assumption) | assumption)
    have hx7:=bt_at a0 x8_1
    replace p7:=eq_true p7
    replace q7:=eq_true q7
    try go_wp2
    have n0_:=Aside0.mk (blk_drew BK249.out)
    have n1_:=Aside0.mk (blk_drew BK250.out)
    have n2_:=Aside0.mk (below_drew1 HB.out)
    clear BK249
    clear BK250
    clear HB
    have BK249:=n0_
    have BK250:=n1_
    have HB:=n2_
    clear n0_ n1_ n2_
    refine start_ (n:=7) (S:=fun w'=>w'.cell? ⟨gb250,0,none⟩ = some (.int .i64 x251000_1) ∧ w'.cell? ⟨gb250,1,none⟩ = some (.int .i64 x251001_1)) (ds:=[6]) #[false,false,false,false,false,false,false] (by kernel_rfl) rfl rfl ⟨(blk_cell BK250.out 0).trans rfl,(blk_cell BK250.out 1).trans rfl⟩ (fun hHeld=>?_)
    generalize wr.drew = w12 at BK249 BK250 HB hHeld ⊢
    refine pure_ (i:=0) (N:=some 17) (v:=?_) (a':=?_) #[true,false,false,false,false,false,false] rfl rfl (by kernel_rfl) (fun _ _ _ h=>h) (Or.inl ⟨by rfl,?_⟩) ?_ ?_
    rotate_left
    ·intro w'
     go_simp
     with_reducible rfl
    rotate_left
    ·simp only [Act.put,List.setIfInBounds_toArray,List.set_cons_zero,List.set_cons_succ,i64_w,i32_w]
     rfl
    refine pure_ (i:=2) (N:=some 19) (v:=?_) (a':=?_) #[true,false,true,false,false,false,false] rfl rfl (by kernel_rfl) (fun _ _ _ h=>h) (Or.inl ⟨by rfl,?_⟩) ?_ ?_
    rotate_left
    ·intro w'
     go_simp
     with_reducible rfl
    rotate_left
    ·simp only [Act.put,List.setIfInBounds_toArray,List.set_cons_zero,List.set_cons_succ,i64_w,i32_w]
     rfl
    refine pure_ (i:=3) (N:=some 20) (v:=?_) (a':=?_) #[true,false,true,true,false,false,false] rfl rfl (by kernel_rfl) (fun _ _ _ h=>h) (Or.inl ⟨by rfl,?_⟩) ?_ ?_
    rotate_left
    ·intro w'
     go_simp
     with_reducible rfl
    rotate_left
    ·simp only [Act.put,List.setIfInBounds_toArray,List.set_cons_zero,List.set_cons_succ,i64_w,i32_w]
     rfl
    refine take_ (i:=1) (N:=some 18) (v:=?_) (a':=?_) #[true,true,true,true,false,false,false] rfl rfl (by kernel_rfl) (fun _ _ _ h=>h) (Or.inl ⟨by rfl,?_⟩) hHeld ?_ ?_
    rotate_left
    ·rintro w' ⟨s0,s1⟩
     go_simp
     with_reducible rfl
    rotate_left
    ·simp only [Act.put,List.setIfInBounds_toArray,List.set_cons_zero,List.set_cons_succ,i64_w,i32_w]
     rfl
    refine pure_ (i:=4) (N:=some 21) (v:=?_) (a':=?_) #[true,true,true,true,true,false,false] rfl rfl (by kernel_rfl) (fun _ _ _ h=>h) (Or.inl ⟨by rfl,?_⟩) ?_ ?_
    rotate_left
    ·intro w'
     go_simp
     with_reducible rfl
    rotate_left
    ·simp only [Act.put,List.setIfInBounds_toArray,List.set_cons_zero,List.set_cons_succ,i64_w,i32_w]
     rfl
    refine pure_ (i:=5) (N:=some 22) (v:=?_) (a':=?_) #[true,true,true,true,true,true,false] rfl rfl (by kernel_rfl) (fun _ _ _ h=>h) (Or.inl ⟨by rfl,?_⟩) ?_ ?_
    rotate_left
    ·intro w'
     go_simp
     with_reducible rfl
    rotate_left
    ·simp only [Act.put,List.setIfInBounds_toArray,List.set_cons_zero,List.set_cons_succ,i64_w,i32_w]
     rfl
    refine last_ (i:=6) (N:=none) #[true,true,true,true,true,true,true] rfl rfl (by kernel_rfl) (by decide) (fun K hK=>?_)
    have hs13:w12.cell? ⟨gb250,0,none⟩ = some (.int .i64 x251000_1):=(blk_cell BK250.out 0).trans rfl
    have hfs13:=blk_frozen BK250.out 0
    have hns13_0:=NB249_250.out
    have hms13_0:=NB250_249.out
    refine skip_ (w1:=?_) (by rfl) rfl ?_ ?_
    rotate_left
    ·go_simp
     rfl
    refine hK.out _ _ ?_
    clear hK K
    refine done_ (by kernel_rfl) ?_
    have hnb14:=NB249_250.out
    have hnc14:=NB250_249.out
    have hcz15_0:w12.cell? ⟨gb249,0,none⟩ = some (.int .i64 x250000_1):=(blk_cell BK249.out 0).trans rfl
    have hcz15_1:w12.cell? ⟨gb249,1,none⟩ = some (.int .i64 x250001_1):=(blk_cell BK249.out 1).trans rfl
    have hfz15_0:=blk_frozen BK249.out 0
    have hfz15_1:=blk_frozen BK249.out 1
    try go_wp2
    refine bodyPost_ret (results_ct rfl _ _ gb249 96 #[.int .i64 0,.int .i64 0] (0,0) _ rfl (by (with_reducible repeat (first | refine blk_drewN ?_ _ | refine blk_drew ?_ | refine blk_alloc ?_ _));refine blk_put (cs:=#[.int .i64 0,.int .i64 x250001_1]) ?_ 1 _ rfl;(with_reducible repeat (first | refine blk_drewN ?_ _ | refine blk_drew ?_ | refine blk_alloc ?_ _));refine blk_put (cs:=#[.int .i64 x250000_1,.int .i64 x250001_1]) ?_ 0 _ rfl;(with_reducible repeat (first | refine blk_drewN ?_ _ | refine blk_drew ?_ | refine blk_alloc ?_ _));refine blk_far ?_ NB249_250.out _;(with_reducible repeat (first | refine blk_drewN ?_ _ | refine blk_drew ?_ | refine blk_alloc ?_ _));exact BK249.out) Try.underlying96 rfl (by kernel_rfl)) rfl ?_
    exact ⟨by first | rfl | (simp [errW_none,errW_some] <;> rfl) | (simp only [← hji10];first | rfl | (simp [errW_none,errW_some] <;> rfl)) | (simp [*,errW_none,errW_some] <;> rfl) | (simp;cases a0.toList <;> rfl),by repeat (first | (with_reducible first | exact HB.out | apply below_alloc | apply pw_below_drewN | apply below_drew1 | refine below_set ?_ GE249.out | refine below_set ?_ GE250.out) | exact HB.out)⟩
   rw [if_neg c8] at H
   have c8b0:((bt a0 x8_1) == 48) = false:=beq_eq_false_iff_ne.mpr c8
   have c8b1:((bt a0 x8_1) != 48) = true:=bne_iff_ne.mpr c8
   by_cases c18:(bt a0 x8_1) = 49
   case neg =>
    rw [if_neg c18] at H
    have c18b0:((bt a0 x8_1) == 49) = false:=beq_eq_false_iff_ne.mpr c18
    have c18b1:((bt a0 x8_1) != 49) = true:=bne_iff_ne.mpr c18
    by_cases c35:(bt a0 x8_1) = 45
    case neg =>
     rw [if_neg c35] at H
     have c35b0:((bt a0 x8_1) == 45) = false:=beq_eq_false_iff_ne.mpr c35
     have c35b1:((bt a0 x8_1) != 45) = true:=bne_iff_ne.mpr c35
     simp only [Option.some.injEq,Prod.mk.injEq] at H
     obtain ⟨rfl,rfl,rfl⟩:=H
     have p7:0 ≤ (x8_1:Int):=of_decide_eq_true (by first | (with_reducible assumption) | assumption)
     have q7:x8_1 < (a0.size:Int):=of_decide_eq_true (by first | (with_reducible assumption) | assumption)
     have hx7:=bt_at a0 x8_1
     replace p7:=eq_true p7
     replace q7:=eq_true q7
     have hnb39:=NB249_250.out
     have hnc39:=NB250_249.out
     have hcz40_0:wr.cell? ⟨gb249,0,none⟩ = some (.int .i64 x250000_1):=(blk_cell BK249.out 0).trans rfl
     have hcz40_1:wr.cell? ⟨gb249,1,none⟩ = some (.int .i64 x250001_1):=(blk_cell BK249.out 1).trans rfl
     have hfz40_0:=blk_frozen BK249.out 0
     have hfz40_1:=blk_frozen BK249.out 1
     go_wp2
     refine bodyPost_ret (results_ct rfl _ _ gb249 96 #[.int .i64 0,.int .i64 0] (0,0) _ rfl (by (with_reducible repeat (first | refine blk_drewN ?_ _ | refine blk_drew ?_ | refine blk_alloc ?_ _));refine blk_put (cs:=#[.int .i64 0,.int .i64 x250001_1]) ?_ 1 _ rfl;(with_reducible repeat (first | refine blk_drewN ?_ _ | refine blk_drew ?_ | refine blk_alloc ?_ _));refine blk_put (cs:=#[.int .i64 x250000_1,.int .i64 x250001_1]) ?_ 0 _ rfl;(with_reducible repeat (first | refine blk_drewN ?_ _ | refine blk_drew ?_ | refine blk_alloc ?_ _));exact BK249.out) Try.underlying96 rfl (by kernel_rfl)) rfl ?_
     exact ⟨by first | rfl | (simp [errW_none,errW_some] <;> rfl) | (simp [*,errW_none,errW_some] <;> rfl) | (simp;cases a0.toList <;> rfl),by repeat (first | (with_reducible first | exact HB.out | apply below_alloc | apply pw_below_drewN | apply below_drew1 | refine below_set ?_ GE249.out | refine below_set ?_ GE250.out) | exact HB.out)⟩
    rw [if_pos c35] at H
    have c35b0:((bt a0 x8_1) == 45) = true:=beq_iff_eq.mpr c35
    have c35b1:((bt a0 x8_1) != 45) = false:=bne_eq_false_iff_eq.mpr c35
    clear c35
    by_cases c36:x8_1 ≥ 5
    case neg =>
     rw [if_neg c36] at H
     have c36b0:decide (5 ≤ x8_1) = false:=decide_eq_false c36
     clear c36
     have H':=Aside0.mk H
     clear H
     have p7:0 ≤ (x8_1:Int):=of_decide_eq_true (by first | (with_reducible assumption) | assumption)
     have q7:x8_1 < (a0.size:Int):=of_decide_eq_true (by first | (with_reducible assumption) | assumption)
     have hx7:=bt_at a0 x8_1
     replace p7:=eq_true p7
     replace q7:=eq_true q7
     go_wp2
     go_roundg k1
     case measure=>have:=HK1.out;omega
     case rel=>exact ⟨(wrap64 (x8_1 + 1)),(x250000_1),(x250001_1),(x251000_1),(x251001_1),(by first | rfl | (simp;done) | (simp [*];done)),H',⟨by have:=HK1.out;omega⟩,⟨by (with_reducible repeat (first | refine blk_drewN ?_ _ | refine blk_drew ?_ | refine blk_alloc ?_ _));exact BK249.out⟩,⟨by (with_reducible repeat (first | refine blk_drewN ?_ _ | refine blk_drew ?_ | refine blk_alloc ?_ _));exact BK250.out⟩,⟨by repeat (first | (with_reducible first | exact HB.out | apply below_alloc | apply pw_below_drewN | apply below_drew1 | refine below_set ?_ GE249.out | refine below_set ?_ GE250.out) | exact HB.out)⟩⟩
    rw [if_pos c36] at H
    have c36b0:decide (5 ≤ x8_1) = true:=decide_eq_true c36
    clear c36
    simp only [Option.some.injEq,Prod.mk.injEq] at H
    obtain ⟨rfl,rfl,rfl⟩:=H
    have p7:0 ≤ (x8_1:Int):=of_decide_eq_true (by first | (with_reducible assumption) | assumption)
    have q7:x8_1 < (a0.size:Int):=of_decide_eq_true (by first | (with_reducible assumption) | assumption)
    have hx7:=bt_at a0 x8_1
    replace p7:=eq_true p7
    replace q7:=eq_true q7
    have hnb37:=NB249_250.out
    have hnc37:=NB250_249.out
    have hcz38_0:wr.cell? ⟨gb249,0,none⟩ = some (.int .i64 x250000_1):=(blk_cell BK249.out 0).trans rfl
    have hcz38_1:wr.cell? ⟨gb249,1,none⟩ = some (.int .i64 x250001_1):=(blk_cell BK249.out 1).trans rfl
    have hfz38_0:=blk_frozen BK249.out 0
    have hfz38_1:=blk_frozen BK249.out 1
    go_wp2
    refine bodyPost_ret (results_ct rfl _ _ gb249 96 #[.int .i64 0,.int .i64 0] (0,0) _ rfl (by (with_reducible repeat (first | refine blk_drewN ?_ _ | refine blk_drew ?_ | refine blk_alloc ?_ _));refine blk_put (cs:=#[.int .i64 0,.int .i64 x250001_1]) ?_ 1 _ rfl;(with_reducible repeat (first | refine blk_drewN ?_ _ | refine blk_drew ?_ | refine blk_alloc ?_ _));refine blk_put (cs:=#[.int .i64 x250000_1,.int .i64 x250001_1]) ?_ 0 _ rfl;(with_reducible repeat (first | refine blk_drewN ?_ _ | refine blk_drew ?_ | refine blk_alloc ?_ _));exact BK249.out) Try.underlying96 rfl (by kernel_rfl)) rfl ?_
    exact ⟨by first | rfl | (simp [errW_none,errW_some] <;> rfl) | (simp [*,errW_none,errW_some] <;> rfl) | (simp;cases a0.toList <;> rfl),by repeat (first | (with_reducible first | exact HB.out | apply below_alloc | apply pw_below_drewN | apply below_drew1 | refine below_set ?_ GE249.out | refine below_set ?_ GE250.out) | exact HB.out)⟩
   rw [if_pos c18] at H
   have c18b0:((bt a0 x8_1) == 49) = true:=beq_iff_eq.mpr c18
   have c18b1:((bt a0 x8_1) != 49) = false:=bne_eq_false_iff_eq.mpr c18
   clear c18
   have c19b0:=eq_true (of_decide_eq_true (by first | (with_reducible assumption) | assumption):0 ≤ x8_1)
   obtain ⟨ji20,hji20⟩:∃ j_:Int,(shl .i64 1 x8_1) = j_:=⟨_,rfl⟩
   replace H:(if x8_1 ≥ 5 then (some (0,0,false)) else (card_newCube.l0 k1 a0 (a0.size:Int) (wrap64 (x8_1 + 1)) (Go.bits .or .i64 x251000_1 (ji20)) (Go.bits .or .i64 x251001_1 (ji20)))) = some (r1,r2,r3):=by first | (rw [hji20] at H;exact H) | (simp only [hji20] at H ⊢;exact H)
   have hji20_:(IntKind.i64.wrap (1 * 2 ^ min x8_1.toNat 64)) = ji20:=hji20
   have hji20z:x8_1 ≤ 64 → (IntKind.i64.wrap (1 * 2 ^ x8_1.toNat)) = ji20:=shl_small hji20
   have hji20u:(IntKind.i64.wrap (2 ^ min x8_1.toNat 64)) = ji20:=by have h_:=hji20_;rw [Int.one_mul] at h_;exact h_
   have hji20v:x8_1 ≤ 64 → (IntKind.i64.wrap (2 ^ x8_1.toNat)) = ji20:=fun hle_=>by have h_:=hji20z hle_;rw [Int.one_mul] at h_;exact h_
   have hji20y:(wrap64 (1 * 2 ^ min x8_1.toNat 64)) = ji20:=(i64_w _).symm.trans hji20_
   have hji20x:x8_1 ≤ 64 → (wrap64 (1 * 2 ^ x8_1.toNat)) = ji20:=fun h_=>(i64_w _).symm.trans (hji20z h_)
   have c21b0:=eq_true (of_decide_eq_true (by first | (with_reducible assumption) | assumption):0 ≤ x8_1)
   by_cases c22:x8_1 ≥ 5
   case neg =>
    rw [if_neg c22] at H
    have c22b0:decide (5 ≤ x8_1) = false:=decide_eq_false c22
    clear c22
    have H':=Aside0.mk H
    clear H
    have p7:0 ≤ (x8_1:Int):=of_decide_eq_true (by first | (with_reducible assumption) | assumption)
    have q7:x8_1 < (a0.size:Int):=of_decide_eq_true (by first | (with_reducible assumption) | assumption)
    have hx7:=bt_at a0 x8_1
    replace p7:=eq_true p7
    replace q7:=eq_true q7
    try go_wp2
    have n0_:=Aside0.mk (blk_drew BK249.out)
    have n1_:=Aside0.mk (blk_drew BK250.out)
    have n2_:=Aside0.mk (below_drew1 HB.out)
    clear BK249
    clear BK250
    clear HB
    have BK249:=n0_
    have BK250:=n1_
    have HB:=n2_
    clear n0_ n1_ n2_
    refine start_ (n:=7) (S:=fun w'=>w'.cell? ⟨gb250,0,none⟩ = some (.int .i64 x251000_1) ∧ w'.cell? ⟨gb250,1,none⟩ = some (.int .i64 x251001_1)) (ds:=[6]) #[false,false,false,false,false,false,false] (by kernel_rfl) rfl rfl ⟨(blk_cell BK250.out 0).trans rfl,(blk_cell BK250.out 1).trans rfl⟩ (fun hHeld=>?_)
    generalize wr.drew = w30 at BK249 BK250 HB hHeld ⊢
    refine pure_ (i:=0) (N:=some 25) (v:=?_) (a':=?_) #[true,false,false,false,false,false,false] rfl rfl (by kernel_rfl) (fun _ _ _ h=>h) (Or.inl ⟨by rfl,?_⟩) ?_ ?_
    rotate_left
    ·intro w'
     go_simp
     with_reducible rfl
    rotate_left
    ·simp only [Act.put,List.setIfInBounds_toArray,List.set_cons_zero,List.set_cons_succ,i64_w,i32_w]
     rfl
    refine pure_ (i:=2) (N:=some 27) (v:=?_) (a':=?_) #[true,false,true,false,false,false,false] rfl rfl (by kernel_rfl) (fun _ _ _ h=>h) (Or.inl ⟨by rfl,?_⟩) ?_ ?_
    rotate_left
    ·intro w'
     go_simp
     with_reducible rfl
    rotate_left
    ·simp only [Act.put,List.setIfInBounds_toArray,List.set_cons_zero,List.set_cons_succ,i64_w,i32_w]
     rfl
    refine pure_ (i:=3) (N:=some 28) (v:=?_) (a':=?_) #[true,false,true,true,false,false,false] rfl rfl (by kernel_rfl) (fun _ _ _ h=>h) (Or.inl ⟨by rfl,?_⟩) ?_ ?_
    rotate_left
    ·intro w'
     go_simp
     with_reducible rfl
    rotate_left
    ·simp only [Act.put,List.setIfInBounds_toArray,List.set_cons_zero,List.set_cons_succ,i64_w,i32_w]
     rfl
    refine take_ (i:=1) (N:=some 26) (v:=?_) (a':=?_) #[true,true,true,true,false,false,false] rfl rfl (by kernel_rfl) (fun _ _ _ h=>h) (Or.inl ⟨by rfl,?_⟩) hHeld ?_ ?_
    rotate_left
    ·rintro w' ⟨s0,s1⟩
     go_simp
     with_reducible rfl
    rotate_left
    ·simp only [Act.put,List.setIfInBounds_toArray,List.set_cons_zero,List.set_cons_succ,i64_w,i32_w]
     rfl
    refine pure_ (i:=4) (N:=some 29) (v:=?_) (a':=?_) #[true,true,true,true,true,false,false] rfl rfl (by kernel_rfl) (fun _ _ _ h=>h) (Or.inl ⟨by rfl,?_⟩) ?_ ?_
    rotate_left
    ·intro w'
     go_simp
     with_reducible rfl
    rotate_left
    ·simp only [Act.put,List.setIfInBounds_toArray,List.set_cons_zero,List.set_cons_succ,i64_w,i32_w]
     rfl
    refine pure_ (i:=5) (N:=some 30) (v:=?_) (a':=?_) #[true,true,true,true,true,true,false] rfl rfl (by kernel_rfl) (fun _ _ _ h=>h) (Or.inl ⟨by rfl,?_⟩) ?_ ?_
    rotate_left
    ·intro w'
     go_simp
     with_reducible rfl
    rotate_left
    ·simp only [Act.put,List.setIfInBounds_toArray,List.set_cons_zero,List.set_cons_succ,i64_w,i32_w]
     rfl
    refine last_ (i:=6) (N:=none) #[true,true,true,true,true,true,true] rfl rfl (by kernel_rfl) (by decide) (fun K hK=>?_)
    have hs31:w30.cell? ⟨gb250,0,none⟩ = some (.int .i64 x251000_1):=(blk_cell BK250.out 0).trans rfl
    have hfs31:=blk_frozen BK250.out 0
    have hns31_0:=NB249_250.out
    have hms31_0:=NB250_249.out
    refine skip_ (w1:=?_) (by rfl) rfl ?_ ?_
    rotate_left
    ·go_simp
     rfl
    refine hK.out _ _ ?_
    clear hK K
    refine done_ (by kernel_rfl) ?_
    try go_wp2
    have n0_:Aside0 ((w30.setCell ⟨gb250,0,none⟩ (.int .i64 (Go.bits .or .i64 x251000_1 (ji20)))).heap[gb249]? = some (.cells #[.int .i64 x250000_1,.int .i64 x250001_1] 96 (0,0))):=⟨by (with_reducible repeat (first | refine blk_drewN ?_ _ | refine blk_drew ?_ | refine blk_alloc ?_ _));refine blk_far ?_ NB249_250.out _;(with_reducible repeat (first | refine blk_drewN ?_ _ | refine blk_drew ?_ | refine blk_alloc ?_ _));exact BK249.out⟩
    have n1_:Aside0 ((w30.setCell ⟨gb250,0,none⟩ (.int .i64 (Go.bits .or .i64 x251000_1 (ji20)))).heap[gb250]? = some (.cells #[.int .i64 (Go.bits .or .i64 x251000_1 (ji20)),.int .i64 x251001_1] 96 (0,0))):=⟨by (with_reducible repeat (first | refine blk_drewN ?_ _ | refine blk_drew ?_ | refine blk_alloc ?_ _));refine blk_put (cs:=#[.int .i64 x251000_1,.int .i64 x251001_1]) ?_ 0 _ rfl;(with_reducible repeat (first | refine blk_drewN ?_ _ | refine blk_drew ?_ | refine blk_alloc ?_ _));exact BK250.out⟩
    have n2_:Aside0 (Below w.heap.size w (w30.setCell ⟨gb250,0,none⟩ (.int .i64 (Go.bits .or .i64 x251000_1 (ji20))))):=⟨by repeat (first | (with_reducible first | exact HB.out | apply below_alloc | apply pw_below_drewN | apply below_drew1 | refine below_set ?_ GE249.out | refine below_set ?_ GE250.out) | exact HB.out)⟩
    (try clear BK249)
    (try clear BK250)
    (try clear HB)
    generalize (w30.setCell ⟨gb250,0,none⟩ (.int .i64 (Go.bits .or .i64 x251000_1 (ji20)))) = w32 at n0_ n1_ n2_ ⊢
    have BK249:=n0_
    have BK250:=n1_
    have HB:=n2_
    clear n0_ n1_ n2_
    have n0_:=Aside0.mk (blk_drew BK249.out)
    have n1_:=Aside0.mk (blk_drew BK250.out)
    have n2_:=Aside0.mk (below_drew1 HB.out)
    clear BK249
    clear BK250
    clear HB
    have BK249:=n0_
    have BK250:=n1_
    have HB:=n2_
    clear n0_ n1_ n2_
    refine start_ (n:=7) (S:=fun w'=>w'.cell? ⟨gb250,0,none⟩ = some (.int .i64 (Go.bits .or .i64 x251000_1 (ji20))) ∧ w'.cell? ⟨gb250,1,none⟩ = some (.int .i64 x251001_1)) (ds:=[6]) #[false,false,false,false,false,false,false] (by kernel_rfl) rfl rfl ⟨(blk_cell BK250.out 0).trans rfl,(blk_cell BK250.out 1).trans rfl⟩ (fun hHeld=>?_)
    generalize w32.drew = w33 at BK249 BK250 HB hHeld ⊢
    refine pure_ (i:=0) (N:=some 31) (v:=?_) (a':=?_) #[true,false,false,false,false,false,false] rfl rfl (by kernel_rfl) (fun _ _ _ h=>h) (Or.inl ⟨by rfl,?_⟩) ?_ ?_
    rotate_left
    ·intro w'
     go_simp
     with_reducible rfl
    rotate_left
    ·simp only [Act.put,List.setIfInBounds_toArray,List.set_cons_zero,List.set_cons_succ,i64_w,i32_w]
     rfl
    refine pure_ (i:=2) (N:=some 33) (v:=?_) (a':=?_) #[true,false,true,false,false,false,false] rfl rfl (by kernel_rfl) (fun _ _ _ h=>h) (Or.inl ⟨by rfl,?_⟩) ?_ ?_
    rotate_left
    ·intro w'
     go_simp
     with_reducible rfl
    rotate_left
    ·simp only [Act.put,List.setIfInBounds_toArray,List.set_cons_zero,List.set_cons_succ,i64_w,i32_w]
     rfl
    refine pure_ (i:=3) (N:=some 34) (v:=?_) (a':=?_) #[true,false,true,true,false,false,false] rfl rfl (by kernel_rfl) (fun _ _ _ h=>h) (Or.inl ⟨by rfl,?_⟩) ?_ ?_
    rotate_left
    ·intro w'
     go_simp
     with_reducible rfl
    rotate_left
    ·simp only [Act.put,List.setIfInBounds_toArray,List.set_cons_zero,List.set_cons_succ,i64_w,i32_w]
     rfl
    refine take_ (i:=1) (N:=some 32) (v:=?_) (a':=?_) #[true,true,true,true,false,false,false] rfl rfl (by kernel_rfl) (fun _ _ _ h=>h) (Or.inl ⟨by rfl,?_⟩) hHeld ?_ ?_
    rotate_left
    ·rintro w' ⟨s0,s1⟩
     go_simp
     with_reducible rfl
    rotate_left
    ·simp only [Act.put,List.setIfInBounds_toArray,List.set_cons_zero,List.set_cons_succ,i64_w,i32_w]
     rfl
    refine pure_ (i:=4) (N:=some 35) (v:=?_) (a':=?_) #[true,true,true,true,true,false,false] rfl rfl (by kernel_rfl) (fun _ _ _ h=>h) (Or.inl ⟨by rfl,?_⟩) ?_ ?_
    rotate_left
    ·intro w'
     go_simp
     with_reducible rfl
    rotate_left
    ·simp only [Act.put,List.setIfInBounds_toArray,List.set_cons_zero,List.set_cons_succ,i64_w,i32_w]
     rfl
    refine pure_ (i:=5) (N:=some 36) (v:=?_) (a':=?_) #[true,true,true,true,true,true,false] rfl rfl (by kernel_rfl) (fun _ _ _ h=>h) (Or.inl ⟨by rfl,?_⟩) ?_ ?_
    rotate_left
    ·intro w'
     go_simp
     with_reducible rfl
    rotate_left
    ·simp only [Act.put,List.setIfInBounds_toArray,List.set_cons_zero,List.set_cons_succ,i64_w,i32_w]
     rfl
    refine last_ (i:=6) (N:=none) #[true,true,true,true,true,true,true] rfl rfl (by kernel_rfl) (by decide) (fun K hK=>?_)
    have hs34:w33.cell? ⟨gb250,1,none⟩ = some (.int .i64 x251001_1):=(blk_cell BK250.out 1).trans rfl
    have hfs34:=blk_frozen BK250.out 1
    have hns34_0:=NB249_250.out
    have hms34_0:=NB250_249.out
    refine skip_ (w1:=?_) (by rfl) rfl ?_ ?_
    rotate_left
    ·go_simp
     rfl
    refine hK.out _ _ ?_
    clear hK K
    refine done_ (by kernel_rfl) ?_
    try go_wp2
    go_roundg k1
    case measure=>have:=HK1.out;omega
    case rel=>exact ⟨(wrap64 (x8_1 + 1)),(x250000_1),(x250001_1),(Go.bits .or .i64 x251000_1 (ji20)),(Go.bits .or .i64 x251001_1 (ji20)),(by first | rfl | (simp;done) | (simp [*];done)),H',⟨by have:=HK1.out;omega⟩,⟨by (with_reducible repeat (first | refine blk_drewN ?_ _ | refine blk_drew ?_ | refine blk_alloc ?_ _));refine blk_far ?_ NB249_250.out _;(with_reducible repeat (first | refine blk_drewN ?_ _ | refine blk_drew ?_ | refine blk_alloc ?_ _));exact BK249.out⟩,⟨by (with_reducible repeat (first | refine blk_drewN ?_ _ | refine blk_drew ?_ | refine blk_alloc ?_ _));refine blk_put (cs:=#[.int .i64 (Go.bits .or .i64 x251000_1 (ji20)),.int .i64 x251001_1]) ?_ 1 _ rfl;(with_reducible repeat (first | refine blk_drewN ?_ _ | refine blk_drew ?_ | refine blk_alloc ?_ _));exact BK250.out⟩,⟨by repeat (first | (with_reducible first | exact HB.out | apply below_alloc | apply pw_below_drewN | apply below_drew1 | refine below_set ?_ GE249.out | refine below_set ?_ GE250.out) | exact HB.out)⟩⟩
   rw [if_pos c22] at H
   have c22b0:decide (5 ≤ x8_1) = true:=decide_eq_true c22
   clear c22
   simp only [Option.some.injEq,Prod.mk.injEq] at H
   obtain ⟨rfl,rfl,rfl⟩:=H
   have p7:0 ≤ (x8_1:Int):=of_decide_eq_true (by first | (with_reducible assumption) | assumption)
   have q7:x8_1 < (a0.size:Int):=of_decide_eq_true (by first | (with_reducible assumption) | assumption)
   have hx7:=bt_at a0 x8_1
   replace p7:=eq_true p7
   replace q7:=eq_true q7
   try go_wp2
   have n0_:=Aside0.mk (blk_drew BK249.out)
   have n1_:=Aside0.mk (blk_drew BK250.out)
   have n2_:=Aside0.mk (below_drew1 HB.out)
   clear BK249
   clear BK250
   clear HB
   have BK249:=n0_
   have BK250:=n1_
   have HB:=n2_
   clear n0_ n1_ n2_
   refine start_ (n:=7) (S:=fun w'=>w'.cell? ⟨gb250,0,none⟩ = some (.int .i64 x251000_1) ∧ w'.cell? ⟨gb250,1,none⟩ = some (.int .i64 x251001_1)) (ds:=[6]) #[false,false,false,false,false,false,false] (by kernel_rfl) rfl rfl ⟨(blk_cell BK250.out 0).trans rfl,(blk_cell BK250.out 1).trans rfl⟩ (fun hHeld=>?_)
   generalize wr.drew = w23 at BK249 BK250 HB hHeld ⊢
   refine pure_ (i:=0) (N:=some 25) (v:=?_) (a':=?_) #[true,false,false,false,false,false,false] rfl rfl (by kernel_rfl) (fun _ _ _ h=>h) (Or.inl ⟨by rfl,?_⟩) ?_ ?_
   rotate_left
   ·intro w'
    go_simp
    with_reducible rfl
   rotate_left
   ·simp only [Act.put,List.setIfInBounds_toArray,List.set_cons_zero,List.set_cons_succ,i64_w,i32_w]
    rfl
   refine pure_ (i:=2) (N:=some 27) (v:=?_) (a':=?_) #[true,false,true,false,false,false,false] rfl rfl (by kernel_rfl) (fun _ _ _ h=>h) (Or.inl ⟨by rfl,?_⟩) ?_ ?_
   rotate_left
   ·intro w'
    go_simp
    with_reducible rfl
   rotate_left
   ·simp only [Act.put,List.setIfInBounds_toArray,List.set_cons_zero,List.set_cons_succ,i64_w,i32_w]
    rfl
   refine pure_ (i:=3) (N:=some 28) (v:=?_) (a':=?_) #[true,false,true,true,false,false,false] rfl rfl (by kernel_rfl) (fun _ _ _ h=>h) (Or.inl ⟨by rfl,?_⟩) ?_ ?_
   rotate_left
   ·intro w'
    go_simp
    with_reducible rfl
   rotate_left
   ·simp only [Act.put,List.setIfInBounds_toArray,List.set_cons_zero,List.set_cons_succ,i64_w,i32_w]
    rfl
   refine take_ (i:=1) (N:=some 26) (v:=?_) (a':=?_) #[true,true,true,true,false,false,false] rfl rfl (by kernel_rfl) (fun _ _ _ h=>h) (Or.inl ⟨by rfl,?_⟩) hHeld ?_ ?_
   rotate_left
   ·rintro w' ⟨s0,s1⟩
    go_simp
    with_reducible rfl
   rotate_left
   ·simp only [Act.put,List.setIfInBounds_toArray,List.set_cons_zero,List.set_cons_succ,i64_w,i32_w]
    rfl
   refine pure_ (i:=4) (N:=some 29) (v:=?_) (a':=?_) #[true,true,true,true,true,false,false] rfl rfl (by kernel_rfl) (fun _ _ _ h=>h) (Or.inl ⟨by rfl,?_⟩) ?_ ?_
   rotate_left
   ·intro w'
    go_simp
    with_reducible rfl
   rotate_left
   ·simp only [Act.put,List.setIfInBounds_toArray,List.set_cons_zero,List.set_cons_succ,i64_w,i32_w]
    rfl
   refine pure_ (i:=5) (N:=some 30) (v:=?_) (a':=?_) #[true,true,true,true,true,true,false] rfl rfl (by kernel_rfl) (fun _ _ _ h=>h) (Or.inl ⟨by rfl,?_⟩) ?_ ?_
   rotate_left
   ·intro w'
    go_simp
    with_reducible rfl
   rotate_left
   ·simp only [Act.put,List.setIfInBounds_toArray,List.set_cons_zero,List.set_cons_succ,i64_w,i32_w]
    rfl
   refine last_ (i:=6) (N:=none) #[true,true,true,true,true,true,true] rfl rfl (by kernel_rfl) (by decide) (fun K hK=>?_)
   have hs24:w23.cell? ⟨gb250,0,none⟩ = some (.int .i64 x251000_1):=(blk_cell BK250.out 0).trans rfl
   have hfs24:=blk_frozen BK250.out 0
   have hns24_0:=NB249_250.out
   have hms24_0:=NB250_249.out
   refine skip_ (w1:=?_) (by rfl) rfl ?_ ?_
   rotate_left
   ·go_simp
    rfl
   refine hK.out _ _ ?_
   clear hK K
   refine done_ (by kernel_rfl) ?_
   try go_wp2
   have n0_:Aside0 ((w23.setCell ⟨gb250,0,none⟩ (.int .i64 (Go.bits .or .i64 x251000_1 (ji20)))).heap[gb249]? = some (.cells #[.int .i64 x250000_1,.int .i64 x250001_1] 96 (0,0))):=⟨by (with_reducible repeat (first | refine blk_drewN ?_ _ | refine blk_drew ?_ | refine blk_alloc ?_ _));refine blk_far ?_ NB249_250.out _;(with_reducible repeat (first | refine blk_drewN ?_ _ | refine blk_drew ?_ | refine blk_alloc ?_ _));exact BK249.out⟩
   have n1_:Aside0 ((w23.setCell ⟨gb250,0,none⟩ (.int .i64 (Go.bits .or .i64 x251000_1 (ji20)))).heap[gb250]? = some (.cells #[.int .i64 (Go.bits .or .i64 x251000_1 (ji20)),.int .i64 x251001_1] 96 (0,0))):=⟨by (with_reducible repeat (first | refine blk_drewN ?_ _ | refine blk_drew ?_ | refine blk_alloc ?_ _));refine blk_put (cs:=#[.int .i64 x251000_1,.int .i64 x251001_1]) ?_ 0 _ rfl;(with_reducible repeat (first | refine blk_drewN ?_ _ | refine blk_drew ?_ | refine blk_alloc ?_ _));exact BK250.out⟩
   have n2_:Aside0 (Below w.heap.size w (w23.setCell ⟨gb250,0,none⟩ (.int .i64 (Go.bits .or .i64 x251000_1 (ji20))))):=⟨by repeat (first | (with_reducible first | exact HB.out | apply below_alloc | apply pw_below_drewN | apply below_drew1 | refine below_set ?_ GE249.out | refine below_set ?_ GE250.out) | exact HB.out)⟩
   (try clear BK249)
   (try clear BK250)
   (try clear HB)
   generalize (w23.setCell ⟨gb250,0,none⟩ (.int .i64 (Go.bits .or .i64 x251000_1 (ji20)))) = w25 at n0_ n1_ n2_ ⊢
   have BK249:=n0_
   have BK250:=n1_
   have HB:=n2_
   clear n0_ n1_ n2_
   have n0_:=Aside0.mk (blk_drew BK249.out)
   have n1_:=Aside0.mk (blk_drew BK250.out)
   have n2_:=Aside0.mk (below_drew1 HB.out)
   clear BK249
   clear BK250
   clear HB
   have BK249:=n0_
   have BK250:=n1_
   have HB:=n2_
   clear n0_ n1_ n2_
   refine start_ (n:=7) (S:=fun w'=>w'.cell? ⟨gb250,0,none⟩ = some (.int .i64 (Go.bits .or .i64 x251000_1 (ji20))) ∧ w'.cell? ⟨gb250,1,none⟩ = some (.int .i64 x251001_1)) (ds:=[6]) #[false,false,false,false,false,false,false] (by kernel_rfl) rfl rfl ⟨(blk_cell BK250.out 0).trans rfl,(blk_cell BK250.out 1).trans rfl⟩ (fun hHeld=>?_)
   generalize w25.drew = w26 at BK249 BK250 HB hHeld ⊢
   refine pure_ (i:=0) (N:=some 31) (v:=?_) (a':=?_) #[true,false,false,false,false,false,false] rfl rfl (by kernel_rfl) (fun _ _ _ h=>h) (Or.inl ⟨by rfl,?_⟩) ?_ ?_
   rotate_left
   ·intro w'
    go_simp
    with_reducible rfl
   rotate_left
   ·simp only [Act.put,List.setIfInBounds_toArray,List.set_cons_zero,List.set_cons_succ,i64_w,i32_w]
    rfl
   refine pure_ (i:=2) (N:=some 33) (v:=?_) (a':=?_) #[true,false,true,false,false,false,false] rfl rfl (by kernel_rfl) (fun _ _ _ h=>h) (Or.inl ⟨by rfl,?_⟩) ?_ ?_
   rotate_left
   ·intro w'
    go_simp
    with_reducible rfl
   rotate_left
   ·simp only [Act.put,List.setIfInBounds_toArray,List.set_cons_zero,List.set_cons_succ,i64_w,i32_w]
    rfl
   refine pure_ (i:=3) (N:=some 34) (v:=?_) (a':=?_) #[true,false,true,true,false,false,false] rfl rfl (by kernel_rfl) (fun _ _ _ h=>h) (Or.inl ⟨by rfl,?_⟩) ?_ ?_
   rotate_left
   ·intro w'
    go_simp
    with_reducible rfl
   rotate_left
   ·simp only [Act.put,List.setIfInBounds_toArray,List.set_cons_zero,List.set_cons_succ,i64_w,i32_w]
    rfl
   refine take_ (i:=1) (N:=some 32) (v:=?_) (a':=?_) #[true,true,true,true,false,false,false] rfl rfl (by kernel_rfl) (fun _ _ _ h=>h) (Or.inl ⟨by rfl,?_⟩) hHeld ?_ ?_
   rotate_left
   ·rintro w' ⟨s0,s1⟩
    go_simp
    with_reducible rfl
   rotate_left
   ·simp only [Act.put,List.setIfInBounds_toArray,List.set_cons_zero,List.set_cons_succ,i64_w,i32_w]
    rfl
   refine pure_ (i:=4) (N:=some 35) (v:=?_) (a':=?_) #[true,true,true,true,true,false,false] rfl rfl (by kernel_rfl) (fun _ _ _ h=>h) (Or.inl ⟨by rfl,?_⟩) ?_ ?_
   rotate_left
   ·intro w'
    go_simp
    with_reducible rfl
   rotate_left
   ·simp only [Act.put,List.setIfInBounds_toArray,List.set_cons_zero,List.set_cons_succ,i64_w,i32_w]
    rfl
   refine pure_ (i:=5) (N:=some 36) (v:=?_) (a':=?_) #[true,true,true,true,true,true,false] rfl rfl (by kernel_rfl) (fun _ _ _ h=>h) (Or.inl ⟨by rfl,?_⟩) ?_ ?_
   rotate_left
   ·intro w'
    go_simp
    with_reducible rfl
   rotate_left
   ·simp only [Act.put,List.setIfInBounds_toArray,List.set_cons_zero,List.set_cons_succ,i64_w,i32_w]
    rfl
   refine last_ (i:=6) (N:=none) #[true,true,true,true,true,true,true] rfl rfl (by kernel_rfl) (by decide) (fun K hK=>?_)
   have hs27:w26.cell? ⟨gb250,1,none⟩ = some (.int .i64 x251001_1):=(blk_cell BK250.out 1).trans rfl
   have hfs27:=blk_frozen BK250.out 1
   have hns27_0:=NB249_250.out
   have hms27_0:=NB250_249.out
   refine skip_ (w1:=?_) (by rfl) rfl ?_ ?_
   rotate_left
   ·go_simp
    rfl
   refine hK.out _ _ ?_
   clear hK K
   refine done_ (by kernel_rfl) ?_
   have hnb28:=NB249_250.out
   have hnc28:=NB250_249.out
   have hcz29_0:w26.cell? ⟨gb249,0,none⟩ = some (.int .i64 x250000_1):=(blk_cell BK249.out 0).trans rfl
   have hcz29_1:w26.cell? ⟨gb249,1,none⟩ = some (.int .i64 x250001_1):=(blk_cell BK249.out 1).trans rfl
   have hfz29_0:=blk_frozen BK249.out 0
   have hfz29_1:=blk_frozen BK249.out 1
   try go_wp2
   refine bodyPost_ret (results_ct rfl _ _ gb249 96 #[.int .i64 0,.int .i64 0] (0,0) _ rfl (by (with_reducible repeat (first | refine blk_drewN ?_ _ | refine blk_drew ?_ | refine blk_alloc ?_ _));refine blk_put (cs:=#[.int .i64 0,.int .i64 x250001_1]) ?_ 1 _ rfl;(with_reducible repeat (first | refine blk_drewN ?_ _ | refine blk_drew ?_ | refine blk_alloc ?_ _));refine blk_put (cs:=#[.int .i64 x250000_1,.int .i64 x250001_1]) ?_ 0 _ rfl;(with_reducible repeat (first | refine blk_drewN ?_ _ | refine blk_drew ?_ | refine blk_alloc ?_ _));refine blk_far ?_ NB249_250.out _;(with_reducible repeat (first | refine blk_drewN ?_ _ | refine blk_drew ?_ | refine blk_alloc ?_ _));exact BK249.out) Try.underlying96 rfl (by kernel_rfl)) rfl ?_
   exact ⟨by first | rfl | (simp [errW_none,errW_some] <;> rfl) | (simp only [← hji20];first | rfl | (simp [errW_none,errW_some] <;> rfl)) | (simp [*,errW_none,errW_some] <;> rfl) | (simp;cases a0.toList <;> rfl),by repeat (first | (with_reducible first | exact HB.out | apply below_alloc | apply pw_below_drewN | apply below_drew1 | refine below_set ?_ GE249.out | refine below_set ?_ GE250.out) | exact HB.out)⟩
def numnahref01_Contains.l0:Nat → ByteArray → Int → Int → Option (Bool)
 | 0,_,_,_=>none
 | k + 1,x0,x1,x5=>if x5 < (x0.size:Int) then (if 0 ≤ x5 then (if (bt x0 x5) = 45 then (numnahref01_Contains.l0 k x0 x1 (wrap64 (x5 + 1))) else (if (((bt x0 x5) - 48) % 256) = (Int.tmod (shr .i64 x1 x5) 2) then (numnahref01_Contains.l0 k x0 x1 (wrap64 (x5 + 1))) else (some false))) else (none)) else (some true)
def numnahref01_Contains.f (k:Nat) (a0:ByteArray) (a1:Int):Option (Bool):=numnahref01_Contains.l0 k a0 a1 0
theorem numnahref01_Contains.mono_l:∀ k,(∀ y0 y1 y2,LeO (numnahref01_Contains.l0 k y0 y1 y2) (numnahref01_Contains.l0 (k + 1) y0 y1 y2))
 | 0=>fun _ _ _ r h=>by simp [numnahref01_Contains.l0] at h
 | k + 1=>by
  have ih0:=numnahref01_Contains.mono_l k
  intro y0 y1 y2
  unfold numnahref01_Contains.l0
  repeat' first
  | (with_reducible exact ih0 _ _ _)
  | (with_reducible exact LeO.refl _)
  | (with_reducible exact LeO.none _)
  | (with_reducible refine LeO.ite ?_ ?_)
  | (with_reducible refine LeO.bind ?_ (fun _=>?_))
  | exact ih0 _ _ _
  | exact LeO.none _
  | refine LeO.ite ?_ ?_
  | refine LeO.bind ?_ (fun _=>?_)
theorem numnahref01_Contains.mono:∀ a0 a1 k,LeO (numnahref01_Contains.f k a0 a1) (numnahref01_Contains.f (k + 1) a0 a1):=by
 intro a0 a1 k
 have ih0:=numnahref01_Contains.mono_l k
 unfold numnahref01_Contains.f
 repeat' first
   | (with_reducible exact ih0 _ _ _)
   | (with_reducible exact LeO.refl _)
   | (with_reducible exact LeO.none _)
   | (with_reducible refine LeO.ite ?_ ?_)
   | (with_reducible refine LeO.bind ?_ (fun _=>?_))
   | exact ih0 _ _ _
   | exact LeO.none _
   | refine LeO.ite ?_ ?_
   | refine LeO.bind ?_ (fun _=>?_)
theorem numnahref01_Contains.calls (k:Nat) (a0:ByteArray) (a1:Int) (r:Bool) (w:World) (h:numnahref01_Contains.f k a0 a1 = some r) :
  Calls Try.prog 68 #[.string a0,.int .i64 a1] w fun e w'=>e = .returned (.bool r) ∧ Drawn0 w w':=by
 have H:(numnahref01_Contains.l0 k a0 a1 0) = some r:=h
 clear h
 have H':=Aside0.mk H
 clear H
 go_enter Try.func68,Try.ntmps68
 go_wp2
 repeat (go_quiet (fail);try go_wp2)
 go_loopg [5] k (fun kq v5 w'=>∃ (x5_1:Int),v5 = .int .i64 x5_1 ∧ Aside0 (numnahref01_Contains.l0 kq a0 a1 x5_1 = some r) ∧ Aside0 (kq ≤ k) ∧ Drawn0 w w')
 case atStart=>exact ⟨(0),(by first | rfl | (simp;done) | (simp [*];done)),H',⟨Nat.le_refl _⟩,by repeat (first | exact Drawn0.refl _ | apply Drawn0.step)⟩
 case round =>
  clear H'
  try clear p2
  obtain ⟨x5_1,rfl,HA,HK1,⟨m1,rfl⟩⟩:=hrel
  cases gk with
  | zero=>exact absurd HA.out (by simp [numnahref01_Contains.l0])
  | succ k1 =>
   have H:=HA.out
   clear HA
   simp only [numnahref01_Contains.l0] at H
   by_cases c3:x5_1 < (a0.size:Int)
   case neg =>
    rw [if_neg c3] at H
    have c3b0:decide (x5_1 < (a0.size:Int)) = false:=decide_eq_false c3
    clear c3
    obtain rfl:=Option.some.inj H
    go_wp2
    repeat (go_quiet (fail);try go_wp2)
    go_ret
    exact ⟨by first | rfl | (simp;done) | (simp [*];done),by repeat (first | exact Drawn0.refl _ | apply Drawn0.step)⟩
   rw [if_pos c3] at H
   have c3b0:decide (x5_1 < (a0.size:Int)) = true:=decide_eq_true c3
   clear c3
   by_cases c4:0 ≤ x5_1
   case neg =>
    rw [if_neg c4] at H
    exact absurd H (by simp)
   rw [if_pos c4] at H
   have c4b0:decide (0 ≤ x5_1) = true:=decide_eq_true c4
   clear c4
   by_cases c6:(bt a0 x5_1) = 45
   ·rw [if_pos c6] at H
    have c6b0:((bt a0 x5_1) == 45) = true:=beq_iff_eq.mpr c6
    have c6b1:((bt a0 x5_1) != 45) = false:=bne_eq_false_iff_eq.mpr c6
    clear c6
    have H':=Aside0.mk H
    clear H
    have p5:0 ≤ (x5_1:Int):=of_decide_eq_true (by first | (with_reducible assumption) | assumption)
    have q5:x5_1 < (a0.size:Int):=of_decide_eq_true (by first | (with_reducible assumption) | assumption)
    have hx5:=bt_at a0 x5_1
    replace p5:=eq_true p5
    replace q5:=eq_true q5
    go_wp2
    repeat (go_quiet (fail);try go_wp2)
    go_roundg k1
    case measure=>have:=HK1.out;omega
    case rel=>exact ⟨(wrap64 (x5_1 + 1)),(by first | rfl | (simp;done) | (simp [*];done)),H',⟨by have:=HK1.out;omega⟩,by repeat (first | exact Drawn0.refl _ | apply Drawn0.step)⟩
   rw [if_neg c6] at H
   have c6b0:((bt a0 x5_1) == 45) = false:=beq_eq_false_iff_ne.mpr c6
   have c6b1:((bt a0 x5_1) != 45) = true:=bne_iff_ne.mpr c6
   have c8b0:=eq_true (of_decide_eq_true (by first | (with_reducible assumption) | assumption):0 ≤ x5_1)
   obtain ⟨ji9,hji9⟩:∃ j_:Int,(shr .i64 a1 x5_1) = j_:=⟨_,rfl⟩
   replace H:(if (((bt a0 x5_1) - 48) % 256) = (Int.tmod (ji9) 2) then (numnahref01_Contains.l0 k1 a0 a1 (wrap64 (x5_1 + 1))) else (some false)) = some r:=by first | (rw [hji9] at H;exact H) | (simp only [hji9] at H ⊢;exact H)
   have hji9_:(a1 / 2 ^ min x5_1.toNat 64) = ji9:=hji9
   have hji9z:x5_1 ≤ 64 → (a1 / 2 ^ x5_1.toNat) = ji9:=shr_small hji9
   by_cases c10:(((bt a0 x5_1) - 48) % 256) = (Int.tmod (ji9) 2)
   case neg =>
    rw [if_neg c10] at H
    have c10b0:((((bt a0 x5_1) - 48) % 256) == (Int.tmod (ji9) 2)) = false:=beq_eq_false_iff_ne.mpr c10
    have c10b1:((((bt a0 x5_1) - 48) % 256) != (Int.tmod (ji9) 2)) = true:=bne_iff_ne.mpr c10
    obtain rfl:=Option.some.inj H
    have p5:0 ≤ (x5_1:Int):=of_decide_eq_true (by first | (with_reducible assumption) | assumption)
    have q5:x5_1 < (a0.size:Int):=of_decide_eq_true (by first | (with_reducible assumption) | assumption)
    have hx5:=bt_at a0 x5_1
    replace p5:=eq_true p5
    replace q5:=eq_true q5
    have p7:0 ≤ (x5_1:Int):=of_decide_eq_true (by first | (with_reducible assumption) | assumption)
    have q7:x5_1 < (a0.size:Int):=of_decide_eq_true (by first | (with_reducible assumption) | assumption)
    have hx7:=bt_at a0 x5_1
    replace p7:=eq_true p7
    replace q7:=eq_true q7
    go_wp2
    repeat (go_quiet (fail);try go_wp2)
    go_ret
    exact ⟨by first | rfl | (simp;done) | (simp only [← hji9] <;> (first | rfl | simp)) | (simp [*];done),by repeat (first | exact Drawn0.refl _ | apply Drawn0.step)⟩
   rw [if_pos c10] at H
   have c10b0:((((bt a0 x5_1) - 48) % 256) == (Int.tmod (ji9) 2)) = true:=beq_iff_eq.mpr c10
   have c10b1:((((bt a0 x5_1) - 48) % 256) != (Int.tmod (ji9) 2)) = false:=bne_eq_false_iff_eq.mpr c10
   clear c10
   have H':=Aside0.mk H
   clear H
   have p5:0 ≤ (x5_1:Int):=of_decide_eq_true (by first | (with_reducible assumption) | assumption)
   have q5:x5_1 < (a0.size:Int):=of_decide_eq_true (by first | (with_reducible assumption) | assumption)
   have hx5:=bt_at a0 x5_1
   replace p5:=eq_true p5
   replace q5:=eq_true q5
   have p7:0 ≤ (x5_1:Int):=of_decide_eq_true (by first | (with_reducible assumption) | assumption)
   have q7:x5_1 < (a0.size:Int):=of_decide_eq_true (by first | (with_reducible assumption) | assumption)
   have hx7:=bt_at a0 x5_1
   replace p7:=eq_true p7
   replace q7:=eq_true q7
   go_wp2
   repeat (go_quiet (fail);try go_wp2)
   go_roundg k1
   case measure=>have:=HK1.out;omega
   case rel=>exact ⟨(wrap64 (x5_1 + 1)),(by first | rfl | (simp;done) | (simp [*];done)),H',⟨by have:=HK1.out;omega⟩,by repeat (first | exact Drawn0.refl _ | apply Drawn0.step)⟩
end Go.Proofs.Ythpahlkhiknofaa.G
set_option linter.unusedSectionVars false
namespace Go.Proofs.Ythpahlkhiknofaa.P
open Go Go.RowKit Go.Proofs.Ythpahlkhiknofaa.M Go.Proofs.Ythpahlkhiknofaa.G
open Go.Proofs.YthpahlkhiknofaaW.PrintWords Go.Proofs.YthpahlkhiknofaaW.PrintMore
section
variable {c:ByteArray} (hc:c.size ≤ 40)
include hc
theorem cube_l0 (n:Int):∀ d i,i + d = c.size → Ev (fun k=>numnahref01_Cube.l0 k c n (i:Int)) (allF (isC c) d i && ((c.size:Int) == n)):=by
 intro d
 induction d with
 | zero =>
  intro i hi
  refine Ev.step (f:=fun _=>some ((c.size:Int) == n)) (fun k=>?_) (by rw [allF,Bool.true_and];exact Ev.now _)
  rw [numnahref01_Cube.l0,if_neg (by omega)]
 | succ d ih =>
  intro i hi
  have hn:=ih (i + 1) (by omega)
  refine Ev.step (fun k=>by rw [numnahref01_Cube.l0,if_pos (by omega),if_pos (by omega),wrap_succ (by omega)]) ?_
  rw [allF]
  by_cases h1:bt c (i:Int) = 48
  ·have:isC c i = true:=by unfold isC;simp [h1]
   rw [this,Bool.true_and]
   exact Ev.congr (fun k=>if_pos h1) hn
  ·by_cases h2:bt c (i:Int) = 49
   ·have:isC c i = true:=by unfold isC;simp [h2]
    rw [this,Bool.true_and]
    exact Ev.congr (fun k=>if_neg h1) (Ev.congr (fun k=>if_pos h2) hn)
   ·by_cases h3:bt c (i:Int) = 45
    ·have:isC c i = true:=by unfold isC;simp [h3]
     rw [this,Bool.true_and]
     exact Ev.congr (fun k=>if_neg h1) (Ev.congr (fun k=>if_neg h2) (Ev.congr (fun k=>if_pos h3) hn))
    ·have:isC c i = false:=by unfold isC;simp [h1,h2,h3]
     rw [this]
     exact Ev.congr (fun k=>if_neg h1) (Ev.congr (fun k=>if_neg h2) (Ev.congr (fun k=>if_neg h3) (Ev.now _)))
theorem ev_cube (n:Int):Ev (fun k=>numnahref01_Cube.f k c n) (okC c && ((c.size:Int) == n)):=cube_l0 hc n c.size 0 (by omega)
theorem contains_l0 (p:Nat):∀ d i,i + d = c.size → Ev (fun k=>numnahref01_Contains.l0 k c (p:Int) (i:Int)) (allF (fun i=>decide (bt c (i:Int) = 45) || decide ((bt c (i:Int) - 48) % 256 = if p.testBit i then 1 else 0)) d i):=by
 intro d
 induction d with
 | zero =>
  intro i hi
  refine Ev.step (f:=fun _=>some true) (fun k=>?_) (Ev.now _)
  rw [numnahref01_Contains.l0,if_neg (by omega)]
 | succ d ih =>
  intro i hi
  have hn:=ih (i + 1) (by omega)
  refine Ev.step (fun k=>by rw [numnahref01_Contains.l0,if_pos (by omega),if_pos (by omega),wrap_succ (by omega),digit (by omega)]) ?_
  rw [allF]
  by_cases h1:bt c (i:Int) = 45
  ·rw [decide_eq_true h1,Bool.true_or,Bool.true_and]
   exact Ev.congr (fun k=>if_pos h1) hn
  ·rw [decide_eq_false h1,Bool.false_or]
   by_cases h2:(bt c (i:Int) - 48) % 256 = if p.testBit i then 1 else 0
   ·rw [decide_eq_true h2,Bool.true_and]
    exact Ev.congr (fun k=>if_neg h1) (Ev.congr (fun k=>if_pos h2) hn)
   ·rw [decide_eq_false h2,Bool.false_and]
    exact Ev.congr (fun k=>if_neg h1) (Ev.congr (fun k=>if_neg h2) (Ev.now _))
theorem ev_contains (hok:okC c = true) (p:Nat):Ev (fun k=>numnahref01_Contains.f k c (p:Int)) (inC c p):=by
 have h:=contains_l0 hc p c.size 0 (by omega)
 have e:allF (fun i=>decide (bt c (i:Int) = 45) || decide ((bt c (i:Int) - 48) % 256 = if p.testBit i then 1 else 0)) c.size 0 = inC c p:=by
  unfold inC
  refine allF_congr fun j _ hj=>?_
  have:=(allF_iff _ _ _).1 hok j (by omega) hj
  unfold isC at this
  simp only [decide_eq_true_eq] at this
  unfold atC
  rcases this with h1 | h1 | h1 <;> rw [h1] <;> cases p.testBit j <;> decide
 rw [e] at h
 exact h
end
theorem ev_aw:Ev (fun _=>(numnahlaw01_awake.f).bind fun t=>some t) true:=Ev.now _
end Go.Proofs.Ythpahlkhiknofaa.P
namespace Go.Proofs.Ythpahlkhiknofaa.G
open Go Go.RowKit Go.Proofs.YthpahlkhiknofaaW.PrintWords
def bits_Len.f (a0:Int):Option Int:=if 0 ≤ a0 ∧ a0 ≤ 18446744073709551615 then some (Lib.bitLen a0.toNat:Int) else none
theorem bits_Len.calls (a0:Int) (r:Int) (w:World) (h:bits_Len.f a0 = some r):Calls Try.prog 94 #[.int .u64 a0] w fun e w'=>e = .returned (.int .i64 r) ∧ Below w.heap.size w w':=by
 unfold bits_Len.f at h
 by_cases hb:0 ≤ a0 ∧ a0 ≤ 18446744073709551615
 case neg =>
  rw [if_neg hb] at h;cases h
 rw [if_pos hb] at h
 obtain rfl:=Option.some.inj h
 refine (Try.bits_Len a0 w hb.1 hb.2).mono fun e w' he=>?_
 obtain ⟨rfl,rfl⟩:=he
 exact ⟨rfl,Below.refl _ _⟩
end Go.Proofs.Ythpahlkhiknofaa.G
namespace Go.Proofs.Ythpahlkhiknofaa.G
open Go.RowKit Go.Proofs.YthpahlkhiknofaaW.PrintWords Go.Proofs.YthpahlkhiknofaaW.PrintLast Go.Proofs.YthpahlkhiknofaaW.PrintMore
set_option maxHeartbeats 8000000
set_option maxRecDepth 100000
attribute [local go_sem] max2_int min2_int max_two min_two max_three min_three max_four min_four   -- for this text's walks alone
def card_newFunction_1.f (a0:Int):Option (Bool):=if a0 = 48 then (some false) else (if a0 = 49 then (some false) else (some (a0 != 45)))
theorem card_newFunction_1.calls (a0:Int) (r:Bool) (w:World) (h:card_newFunction_1.f a0 = some r) :
  Calls Try.prog 96 #[.int .i32 a0] w fun e w'=>e = .returned (.bool r) ∧ Drawn0 w w':=by
 have H:(if a0 = 48 then (some false) else (if a0 = 49 then (some false) else (some (a0 != 45)))) = some r:=h
 clear h
 by_cases c2:a0 = 48
 ·rw [if_pos c2] at H
  have c2b0:(a0 == 48) = true:=beq_iff_eq.mpr c2
  have c2b1:(a0 != 48) = false:=bne_eq_false_iff_eq.mpr c2
  clear c2
  obtain rfl:=Option.some.inj H
  go_enter Try.func96,Try.ntmps96
  go_wp2
  go_ret
  exact ⟨by first | rfl | (simp;done) | (simp [*];done),by repeat (first | exact Drawn0.refl _ | apply Drawn0.step)⟩
 rw [if_neg c2] at H
 have c2b0:(a0 == 48) = false:=beq_eq_false_iff_ne.mpr c2
 have c2b1:(a0 != 48) = true:=bne_iff_ne.mpr c2
 by_cases c3:a0 = 49
 case neg =>
  rw [if_neg c3] at H
  have c3b0:(a0 == 49) = false:=beq_eq_false_iff_ne.mpr c3
  have c3b1:(a0 != 49) = true:=bne_iff_ne.mpr c3
  obtain rfl:=Option.some.inj H
  go_enter Try.func96,Try.ntmps96
  go_wp2
  go_ret
  exact ⟨by first | rfl | (simp;done) | (simp [*];done),by repeat (first | exact Drawn0.refl _ | apply Drawn0.step)⟩
 rw [if_pos c3] at H
 have c3b0:(a0 == 49) = true:=beq_iff_eq.mpr c3
 have c3b1:(a0 != 49) = false:=bne_eq_false_iff_eq.mpr c3
 clear c3
 obtain rfl:=Option.some.inj H
 go_enter Try.func96,Try.ntmps96
 go_wp2
 go_ret
 exact ⟨by first | rfl | (simp;done) | (simp [*];done),by repeat (first | exact Drawn0.refl _ | apply Drawn0.step)⟩
def card_newFunction_1.Pure:Prop:=∀ (a0:Int),(Lit.int .i32 a0).wf = true → card_newFunction_1.f a0 = some true
theorem card_newFunction_1.walk (P:card_newFunction_1.Pure) (a0:Int) (w:World) (w0:(Lit.int .i32 a0).wf = true) :
  Calls Try.prog 96 #[.int .i32 a0] w fun e w'=>e = .returned (.bool true) ∧ Below w.heap.size w w':=by
 have h:=P a0 w0
 refine (card_newFunction_1.calls a0 true w h).mono ?_
 rintro e w' ⟨rfl,hd⟩
 exact ⟨rfl,hd.below⟩
end Go.Proofs.Ythpahlkhiknofaa.G
namespace Go.Proofs.Ythpahlkhiknofaa.P
open Go Go.RowKit Go.Proofs.YthpahlkhiknofaaW.PrintWords
def badN (x:Nat):Bool:=!(decide (x = 48) || decide (x = 49) || decide (x = 45))
theorem get_bt {s:ByteArray} {i:Nat} (h:i < s.size):(s.get! i).toNat = (bt s (i:Int)).toNat:=by
 rw [bt_get h,Int.toNat_natCast]
 congr 1
 show s.data[i]! = s.data[i]
 rw [getElem!_pos]
theorem decode_low {s:ByteArray} {i:Nat} (h:(s.get! i).toNat < 128):Utf8.decode s i = ((s.get! i).toNat,1):=by
 unfold Utf8.decode
 simp only [Nat.add_zero]
 rw [if_pos h]
theorem decode_high {s:ByteArray} {i:Nat} (h:¬ (s.get! i).toNat < 128):128 ≤ (Utf8.decode s i).1:=by
 unfold Utf8.decode
 simp only [Nat.add_zero]
 rw [if_neg h]
 have e:128 ≤ Utf8.runeError:=by decide
 split
 ·split
  ·assumption
  exact e
 split
 ·split
  ·rename_i h2
   rw [Bool.and_eq_true,decide_eq_true_eq] at h2
   show 128 ≤ _
   have:=h2.1
   simp only at this ⊢
   omega
  exact e
 split
 ·split
  ·rename_i h2
   rw [Bool.and_eq_true,decide_eq_true_eq] at h2
   have:=h2.1
   simp only at this ⊢
   omega
  exact e
 exact e
theorem idx_bad (s:ByteArray):∀ f pos,s.size - pos ≤ f → decide (0 ≤ Lib.idxFuncFrom badN true s f pos) = !allF (isC s) (s.size - pos) pos
 | 0,pos,h=>by
  have e:s.size - pos = 0:=by omega
  rw [e];rfl
 | f + 1,pos,h=>by
  rw [Lib.idxFuncFrom]
  by_cases hp:pos < s.size
  case neg =>
   rw [if_neg hp]
   have e:s.size - pos = 0:=by omega
   rw [e];rfl
  rw [if_pos hp]
  obtain ⟨d,hd⟩:∃ d,s.size - pos = d + 1:=⟨s.size - pos - 1,by omega⟩
  have hd2:s.size - (pos + 1) = d:=by omega
  rw [hd,allF]
  have hg:=get_bt hp
  have hr:=bt_range s (pos:Int)
  by_cases hl:(s.get! pos).toNat < 128
  case neg =>
   have h2:=decode_high hl
   have hb:badN (Utf8.decode s pos).1 = true:=by
    unfold badN
    rw [decide_eq_false (by omega),decide_eq_false (by omega),decide_eq_false (by omega)];rfl
   rw [hb,if_pos rfl]
   have hc':isC s pos = false:=by
    unfold isC
    exact decide_eq_false (by omega)
   rw [hc',Bool.false_and]
   exact decide_eq_true (by omega)
  rw [decode_low hl]
  have hb:badN (s.get! pos).toNat = !isC s pos:=by
   unfold badN isC
   rw [hg]
   congr 1
   rw [Bool.eq_iff_iff]
   simp only [Bool.or_eq_true,decide_eq_true_eq]
   omega
  simp only [hb]
  by_cases hc:isC s pos = true
  ·rw [hc,if_neg (by decide),Bool.true_and,idx_bad s f (pos + 1) (by omega),hd2]
  have hc':isC s pos = false:=by simpa using hc
  rw [hc',if_pos (by decide),Bool.false_and]
  exact decide_eq_true (by omega)
end Go.Proofs.Ythpahlkhiknofaa.P
namespace Go.Proofs.Ythpahlkhiknofaa.G
open Go Go.RowKit Go.Proofs.YthpahlkhiknofaaW.PrintWords
def contains96.f (a0:ByteArray):Option Bool:=some (!P.okC a0)
theorem contains96.calls (a0:ByteArray) (r:Bool) (w:World) (h:contains96.f a0 = some r):Calls Try.prog 95 #[.string a0,.func (.func 96) #[] #[]] w fun e w'=>e = .returned (.bool r) ∧ Below w.heap.size w w':=by
 obtain rfl:=Option.some.inj h
 refine (Try.strings_ContainsFunc_grows 96 #[] (enters_of Try.func96 (by kernel_rfl) rfl) P.badN a0 w (fun W x _ _=>?_)).mono fun e w' he=>?_
 ·refine (card_newFunction_1.calls (x:Int) (P.badN x) W ?_).mono fun e w' he=>⟨he.1,he.2.below⟩
  unfold card_newFunction_1.f P.badN
  by_cases h1:x = 48
  ·subst h1;rfl
  by_cases h2:x = 49
  ·subst h2;rfl
  rw [if_neg (by omega),if_neg (by omega),decide_eq_false h1,decide_eq_false h2]
  congr 1
  by_cases h3:x = 45
  ·subst h3;rfl
  rw [decide_eq_false h3]
  have:(x:Int) ≠ 45:=by omega
  simpa using this
 obtain ⟨rfl,hb⟩:=he
 refine ⟨?_,hb⟩
 have:=P.idx_bad a0 a0.size 0 (by omega)
 unfold Lib.idxFunc
 rw [this];rfl
end Go.Proofs.Ythpahlkhiknofaa.G
namespace Go.Proofs.Ythpahlkhiknofaa.G
open Go.RowKit Go.Proofs.YthpahlkhiknofaaW.PrintWords Go.Proofs.YthpahlkhiknofaaW.PrintLast Go.Proofs.YthpahlkhiknofaaW.PrintMore
set_option maxHeartbeats 8000000
set_option maxRecDepth 100000
attribute [local go_sem] max2_int min2_int max_two min_two max_three min_three max_four min_four   -- for this text's walks alone
def card_newFunction.f (a0:ByteArray):Option (Int × ByteArray × Bool):=(bits_Len.f (IntKind.u64.wrap ((a0.size:Int)))).bind fun t110=>((card_within.f (wrap64 (t110 - 1)) 1 5).bind fun t111=>(if t111 = true then (if 0 ≤ (wrap64 (t110 - 1)) then (if (a0.size:Int) = (shl .i64 1 (wrap64 (t110 - 1))) then ((contains96.f a0).bind fun t112=>(some (wrap64 (t110 - 1),a0,!t112))) else (some (wrap64 (t110 - 1),a0,false))) else (none)) else (some (wrap64 (t110 - 1),a0,false))))
theorem card_newFunction.calls (a0:ByteArray) (r1:Int) (r2:ByteArray) (r3:Bool) (w:World) (h:card_newFunction.f a0 = some (r1,r2,r3)) :
  Calls Try.prog 65 #[.string a0] w fun e w'=>e = .returned (.tuple #[.agg #[.int .i64 r1,.string r2],.bool r3]) ∧ Below w.heap.size w w':=by
 have hu81:=Try.underlying81
 have HB:=Aside0.mk (Below.refl w.heap.size w)
 have H:((bits_Len.f (IntKind.u64.wrap ((a0.size:Int)))).bind fun t110=>((card_within.f (wrap64 (t110 - 1)) 1 5).bind fun t111=>(if t111 = true then (if 0 ≤ (wrap64 (t110 - 1)) then (if (a0.size:Int) = (shl .i64 1 (wrap64 (t110 - 1))) then ((contains96.f a0).bind fun t112=>(some (wrap64 (t110 - 1),a0,!t112))) else (some (wrap64 (t110 - 1),a0,false))) else (none)) else (some (wrap64 (t110 - 1),a0,false))))) = some (r1,r2,r3):=h
 clear h
 replace H:=Option.bind_eq_some_iff.mp H
 obtain ⟨t110,A20,H⟩:=H
 replace H:((card_within.f (wrap64 (t110 - 1)) 1 5).bind fun t111=>(if t111 = true then (if 0 ≤ (wrap64 (t110 - 1)) then (if (a0.size:Int) = (shl .i64 1 (wrap64 (t110 - 1))) then ((contains96.f a0).bind fun t112=>(some (wrap64 (t110 - 1),a0,!t112))) else (some (wrap64 (t110 - 1),a0,false))) else (none)) else (some (wrap64 (t110 - 1),a0,false)))) = some (r1,r2,r3):=H
 have A2:=Aside0.mk A20
 clear A20
 replace H:=Option.bind_eq_some_iff.mp H
 obtain ⟨t111,A30,H⟩:=H
 replace H:(if t111 = true then (if 0 ≤ (wrap64 (t110 - 1)) then (if (a0.size:Int) = (shl .i64 1 (wrap64 (t110 - 1))) then ((contains96.f a0).bind fun t112=>(some (wrap64 (t110 - 1),a0,!t112))) else (some (wrap64 (t110 - 1),a0,false))) else (none)) else (some (wrap64 (t110 - 1),a0,false))) = some (r1,r2,r3):=H
 have A3:=Aside0.mk A30
 clear A30
 by_cases c4:t111 = true
 case neg =>
  replace c4:=Bool.eq_false_iff.mpr c4
  subst c4
  have H1:(some (wrap64 (t110 - 1),a0,false)) = some (r1,r2,r3):=by rw [if_neg (show ¬ (false = true) by decide)] at H;exact H
  clear H
  have H:=H1
  clear H1
  simp only [Option.some.injEq,Prod.mk.injEq] at H
  obtain ⟨rfl,rfl,rfl⟩:=H
  go_enter Try.func65,Try.ntmps65
  go_wp2_with (first | ((with_reducible refine gate_dst (N:=2) rfl ?_);(try (refine gate_guard (by rfl) ?_;dsimp only));refine box_event ?hg (N:=2) ?hd (cs:=#[.int .i64 0,.string (⟨#[]⟩:ByteArray)]) (t:=81) ?hr ?_;(case hd=>rfl);(case hg=>rfl);(case hr=>first | (go_simp;done) | (go_simp;rfl));intro gb109 hg w17 hbox hb;have n0_:=Aside0.mk (below_step (by repeat (first | (with_reducible first | exact HB.out | apply below_alloc | apply pw_below_drewN | apply below_drew1) | exact HB.out)) hb);have n1_:=Aside0.mk (hbox);have n2_:=Aside0.mk ((by rw [hg];exact (below_size (by repeat (first | (with_reducible first | exact HB.out | apply below_alloc | apply pw_below_drewN | apply below_drew1) | exact HB.out))):w.heap.size ≤ gb109));have n3_:=Aside0.mk ((by rw [hg];exact (below_size (by repeat (first | (with_reducible first | exact HB.out | apply below_alloc | apply pw_below_drewN | apply below_drew1) | exact HB.out))):w.heap.size ≤ gb109));clear HB;have HB:=n0_;have BK109:=n1_;have GW109:=n2_;have GE109:=n3_;clear n0_ n1_ n2_ n3_;clear hb hbox hg) | ((with_reducible refine gate_callee (f:=94) rfl ?_);refine goesL_ (some 9) rfl rfl Try.func94 (by kernel_rfl) rfl #[.int .u64 (IntKind.u64.wrap ((a0.size:Int)))] rfl (by (try simp only [List.map_toArray,List.map_cons,List.map_nil]);first | done | rfl | (simp only [List.length_drop,List.length_take];rfl)) ?_;(with_reducible refine (bits_Len.calls (IntKind.u64.wrap ((a0.size:Int))) t110 _ A2.out).mono ?_);rintro e w18 ⟨rfl,hb⟩;refine ⟨_,rfl,?_⟩;have n0_:=Aside0.mk (blk_below (g:=gb109) (o:=.cells #[.int .i64 0,.string (⟨#[]⟩:ByteArray)] 81 (0,0)) (by (with_reducible repeat (first | refine blk_drewN ?_ _ | refine blk_drew ?_ | refine blk_alloc ?_ _));exact BK109.out) hb);have n1_:=Aside0.mk (below_step (by repeat (first | (with_reducible first | exact HB.out | apply below_alloc | apply pw_below_drewN | apply below_drew1 | refine below_set ?_ GE109.out) | exact HB.out)) hb);clear BK109;clear HB;have BK109:=n0_;have HB:=n1_;clear n0_ n1_;(try clear hb)) | ((with_reducible refine gate_callee (f:=61) rfl ?_);refine goesL_ (some 12) rfl rfl Try.func61 (by kernel_rfl) rfl #[.int .i64 (wrap64 (t110 - 1)),.int .i64 1,.int .i64 5] rfl (by (try simp only [List.map_toArray,List.map_cons,List.map_nil]);first | done | rfl | (simp only [List.length_drop,List.length_take];rfl)) ?_;(with_reducible refine (card_within.calls (wrap64 (t110 - 1)) 1 5 false _ A3.out).mono ?_);rintro e w' ⟨rfl,⟨nd,rfl⟩⟩;refine ⟨_,rfl,?_⟩;(try (rw [drewN_self w18];generalize hq_:World.drewN w18 _ = w18;have n0_:Aside0 (w18.heap[gb109]? = some (.cells #[.int .i64 0,.string (⟨#[]⟩:ByteArray)] 81 (0,0))):=⟨by rw [← hq_];exact (by (with_reducible repeat (first | refine blk_drewN ?_ _ | refine blk_drew ?_ | refine blk_alloc ?_ _));exact BK109.out)⟩;have n1_:Aside0 (Below w.heap.size w w18):=⟨by rw [← hq_];exact (by repeat (first | (with_reducible first | exact HB.out | apply below_alloc | apply pw_below_drewN | apply below_drew1 | refine below_set ?_ GE109.out) | exact HB.out))⟩;clear BK109 HB hq_;have BK109:=n0_;have HB:=n1_;clear n0_ n1_));have hcz19_0:w18.cell? ⟨gb109,0,none⟩ = some (.int .i64 0):=(blk_cell BK109.out 0).trans rfl;have hcz19_1:w18.cell? ⟨gb109,1,none⟩ = some (.string (⟨#[]⟩:ByteArray)):=(blk_cell BK109.out 1).trans rfl;have hfz19_0:=blk_frozen BK109.out 0;have hfz19_1:=blk_frozen BK109.out 1))
  refine bodyPost_ret (results_ct rfl _ _ gb109 81 #[.int .i64 (wrap64 (t110 - 1)),.string a0] (0,0) _ rfl (by (with_reducible repeat (first | refine blk_drewN ?_ _ | refine blk_drew ?_ | refine blk_alloc ?_ _));refine blk_put (cs:=#[.int .i64 (wrap64 (t110 - 1)),.string (⟨#[]⟩:ByteArray)]) ?_ 1 _ rfl;(with_reducible repeat (first | refine blk_drewN ?_ _ | refine blk_drew ?_ | refine blk_alloc ?_ _));refine blk_put (cs:=#[.int .i64 0,.string (⟨#[]⟩:ByteArray)]) ?_ 0 _ rfl;(with_reducible repeat (first | refine blk_drewN ?_ _ | refine blk_drew ?_ | refine blk_alloc ?_ _));exact BK109.out) Try.underlying81 rfl (by kernel_rfl)) rfl ?_
  exact ⟨by first | rfl | (simp [errW_none,errW_some] <;> rfl) | (simp [*,errW_none,errW_some] <;> rfl),by repeat (first | (with_reducible first | exact HB.out | apply below_alloc | apply pw_below_drewN | apply below_drew1 | refine below_set ?_ GE109.out) | exact HB.out)⟩
 subst c4
 have H1:(if 0 ≤ (wrap64 (t110 - 1)) then (if (a0.size:Int) = (shl .i64 1 (wrap64 (t110 - 1))) then ((contains96.f a0).bind fun t112=>(some (wrap64 (t110 - 1),a0,!t112))) else (some (wrap64 (t110 - 1),a0,false))) else (none)) = some (r1,r2,r3):=by rw [if_pos rfl] at H;exact H
 clear H
 have H:=H1
 clear H1
 obtain ⟨ji5,hji5⟩:∃ j_:Int,(wrap64 (t110 - 1)) = j_:=⟨_,rfl⟩
 replace H:(if 0 ≤ (ji5) then (if (a0.size:Int) = (shl .i64 1 (ji5)) then ((contains96.f a0).bind fun t112=>(some (ji5,a0,!t112))) else (some (ji5,a0,false))) else (none)) = some (r1,r2,r3):=by first | (rw [hji5] at H;exact H) | (simp only [hji5] at H ⊢;exact H)
 (try rw [hji5] at A2)
 (try rw [hji5] at A3)
 have hji5w:(IntKind.i64.wrap (t110 - 1)) = ji5:=(i64_w _).trans hji5
 by_cases c6:0 ≤ (ji5)
 case neg =>
  rw [if_neg c6] at H
  exact absurd H (by simp)
 rw [if_pos c6] at H
 have c6b0:=eq_true c6
 have c6b1:decide (0 ≤ (ji5)) = true:=decide_eq_true c6
 clear c6
 obtain ⟨ji7,hji7⟩:∃ j_:Int,(shl .i64 1 (ji5)) = j_:=⟨_,rfl⟩
 replace H:(if (a0.size:Int) = (ji7) then ((contains96.f a0).bind fun t112=>(some (ji5,a0,!t112))) else (some (ji5,a0,false))) = some (r1,r2,r3):=by first | (rw [hji7] at H;exact H) | (simp only [hji7] at H ⊢;exact H)
 (try rw [hji7] at A2)
 (try rw [hji7] at A3)
 have hji7_:(IntKind.i64.wrap (1 * 2 ^ min (ji5).toNat 64)) = ji7:=hji7
 have hji7z:(ji5) ≤ 64 → (IntKind.i64.wrap (1 * 2 ^ (ji5).toNat)) = ji7:=shl_small hji7
 have hji7u:(IntKind.i64.wrap (2 ^ min (ji5).toNat 64)) = ji7:=by have h_:=hji7_;rw [Int.one_mul] at h_;exact h_
 have hji7v:(ji5) ≤ 64 → (IntKind.i64.wrap (2 ^ (ji5).toNat)) = ji7:=fun hle_=>by have h_:=hji7z hle_;rw [Int.one_mul] at h_;exact h_
 have hji7y:(wrap64 (1 * 2 ^ min (ji5).toNat 64)) = ji7:=(i64_w _).symm.trans hji7_
 have hji7x:(ji5) ≤ 64 → (wrap64 (1 * 2 ^ (ji5).toNat)) = ji7:=fun h_=>(i64_w _).symm.trans (hji7z h_)
 by_cases c8:(a0.size:Int) = (ji7)
 case neg =>
  rw [if_neg c8] at H
  have c8b0:((a0.size:Int) == (ji7)) = false:=beq_eq_false_iff_ne.mpr c8
  have c8b1:((a0.size:Int) != (ji7)) = true:=bne_iff_ne.mpr c8
  simp only [Option.some.injEq,Prod.mk.injEq] at H
  obtain ⟨rfl,rfl,rfl⟩:=H
  go_enter Try.func65,Try.ntmps65
  go_wp2_with (first | ((with_reducible refine gate_dst (N:=2) rfl ?_);(try (refine gate_guard (by rfl) ?_;dsimp only));refine box_event ?hg (N:=2) ?hd (cs:=#[.int .i64 0,.string (⟨#[]⟩:ByteArray)]) (t:=81) ?hr ?_;(case hd=>rfl);(case hg=>rfl);(case hr=>first | (go_simp;done) | (go_simp;rfl));intro gb109 hg w14 hbox hb;have n0_:=Aside0.mk (below_step (by repeat (first | (with_reducible first | exact HB.out | apply below_alloc | apply pw_below_drewN | apply below_drew1) | exact HB.out)) hb);have n1_:=Aside0.mk (hbox);have n2_:=Aside0.mk ((by rw [hg];exact (below_size (by repeat (first | (with_reducible first | exact HB.out | apply below_alloc | apply pw_below_drewN | apply below_drew1) | exact HB.out))):w.heap.size ≤ gb109));have n3_:=Aside0.mk ((by rw [hg];exact (below_size (by repeat (first | (with_reducible first | exact HB.out | apply below_alloc | apply pw_below_drewN | apply below_drew1) | exact HB.out))):w.heap.size ≤ gb109));clear HB;have HB:=n0_;have BK109:=n1_;have GW109:=n2_;have GE109:=n3_;clear n0_ n1_ n2_ n3_;clear hb hbox hg) | ((with_reducible refine gate_callee (f:=94) rfl ?_);refine goesL_ (some 9) rfl rfl Try.func94 (by kernel_rfl) rfl #[.int .u64 (IntKind.u64.wrap ((a0.size:Int)))] rfl (by (try simp only [List.map_toArray,List.map_cons,List.map_nil]);first | done | rfl | (simp only [List.length_drop,List.length_take];rfl)) ?_;(with_reducible refine (bits_Len.calls (IntKind.u64.wrap ((a0.size:Int))) t110 _ A2.out).mono ?_);rintro e w15 ⟨rfl,hb⟩;refine ⟨_,rfl,?_⟩;have n0_:=Aside0.mk (blk_below (g:=gb109) (o:=.cells #[.int .i64 0,.string (⟨#[]⟩:ByteArray)] 81 (0,0)) (by (with_reducible repeat (first | refine blk_drewN ?_ _ | refine blk_drew ?_ | refine blk_alloc ?_ _));exact BK109.out) hb);have n1_:=Aside0.mk (below_step (by repeat (first | (with_reducible first | exact HB.out | apply below_alloc | apply pw_below_drewN | apply below_drew1 | refine below_set ?_ GE109.out) | exact HB.out)) hb);clear BK109;clear HB;have BK109:=n0_;have HB:=n1_;clear n0_ n1_;(try clear hb)) | ((with_reducible refine gate_callee (f:=61) rfl ?_);refine goesL_ (some 12) rfl rfl Try.func61 (by kernel_rfl) rfl #[.int .i64 ji5,.int .i64 1,.int .i64 5] rfl (by (try simp only [List.map_toArray,List.map_cons,List.map_nil]);first | done | (simp only [hji5];rfl) | rfl | (simp only [List.length_drop,List.length_take];rfl)) ?_;(with_reducible refine (card_within.calls ji5 1 5 true _ A3.out).mono ?_);rintro e w' ⟨rfl,⟨nd,rfl⟩⟩;refine ⟨_,rfl,?_⟩;(try (rw [drewN_self w15];generalize hq_:World.drewN w15 _ = w15;have n0_:Aside0 (w15.heap[gb109]? = some (.cells #[.int .i64 0,.string (⟨#[]⟩:ByteArray)] 81 (0,0))):=⟨by rw [← hq_];exact (by (with_reducible repeat (first | refine blk_drewN ?_ _ | refine blk_drew ?_ | refine blk_alloc ?_ _));exact BK109.out)⟩;have n1_:Aside0 (Below w.heap.size w w15):=⟨by rw [← hq_];exact (by repeat (first | (with_reducible first | exact HB.out | apply below_alloc | apply pw_below_drewN | apply below_drew1 | refine below_set ?_ GE109.out) | exact HB.out))⟩;clear BK109 HB hq_;have BK109:=n0_;have HB:=n1_;clear n0_ n1_));have hcz16_0:w15.cell? ⟨gb109,0,none⟩ = some (.int .i64 0):=(blk_cell BK109.out 0).trans rfl;have hcz16_1:w15.cell? ⟨gb109,1,none⟩ = some (.string (⟨#[]⟩:ByteArray)):=(blk_cell BK109.out 1).trans rfl;have hfz16_0:=blk_frozen BK109.out 0;have hfz16_1:=blk_frozen BK109.out 1))
  refine bodyPost_ret (results_ct rfl _ _ gb109 81 #[.int .i64 ji5,.string a0] (0,0) _ rfl (by (with_reducible repeat (first | refine blk_drewN ?_ _ | refine blk_drew ?_ | refine blk_alloc ?_ _));refine blk_put (cs:=#[.int .i64 ji5,.string (⟨#[]⟩:ByteArray)]) ?_ 1 _ rfl;(with_reducible repeat (first | refine blk_drewN ?_ _ | refine blk_drew ?_ | refine blk_alloc ?_ _));refine blk_put (cs:=#[.int .i64 0,.string (⟨#[]⟩:ByteArray)]) ?_ 0 _ rfl;(with_reducible repeat (first | refine blk_drewN ?_ _ | refine blk_drew ?_ | refine blk_alloc ?_ _));exact BK109.out) Try.underlying81 rfl (by kernel_rfl)) rfl ?_
  exact ⟨by first | rfl | (simp [errW_none,errW_some] <;> rfl) | (simp only [← hji5,← hji7];first | rfl | (simp [errW_none,errW_some] <;> rfl)) | (simp [*,errW_none,errW_some] <;> rfl),by repeat (first | (with_reducible first | exact HB.out | apply below_alloc | apply pw_below_drewN | apply below_drew1 | refine below_set ?_ GE109.out) | exact HB.out)⟩
 rw [if_pos c8] at H
 have c8b0:((a0.size:Int) == (ji7)) = true:=beq_iff_eq.mpr c8
 have c8b1:((a0.size:Int) != (ji7)) = false:=bne_eq_false_iff_eq.mpr c8
 clear c8
 replace H:=Option.bind_eq_some_iff.mp H
 obtain ⟨t112,A90,H⟩:=H
 replace H:(some (ji5,a0,!t112)) = some (r1,r2,r3):=H
 have A9:=Aside0.mk A90
 clear A90
 simp only [Option.some.injEq,Prod.mk.injEq] at H
 obtain ⟨rfl,rfl,rfl⟩:=H
 go_enter Try.func65,Try.ntmps65
 go_wp2_with (first | ((with_reducible refine gate_dst (N:=2) rfl ?_);(try (refine gate_guard (by rfl) ?_;dsimp only));refine box_event ?hg (N:=2) ?hd (cs:=#[.int .i64 0,.string (⟨#[]⟩:ByteArray)]) (t:=81) ?hr ?_;(case hd=>rfl);(case hg=>rfl);(case hr=>first | (go_simp;done) | (go_simp;rfl));intro gb109 hg w10 hbox hb;have n0_:=Aside0.mk (below_step (by repeat (first | (with_reducible first | exact HB.out | apply below_alloc | apply pw_below_drewN | apply below_drew1) | exact HB.out)) hb);have n1_:=Aside0.mk (hbox);have n2_:=Aside0.mk ((by rw [hg];exact (below_size (by repeat (first | (with_reducible first | exact HB.out | apply below_alloc | apply pw_below_drewN | apply below_drew1) | exact HB.out))):w.heap.size ≤ gb109));have n3_:=Aside0.mk ((by rw [hg];exact (below_size (by repeat (first | (with_reducible first | exact HB.out | apply below_alloc | apply pw_below_drewN | apply below_drew1) | exact HB.out))):w.heap.size ≤ gb109));clear HB;have HB:=n0_;have BK109:=n1_;have GW109:=n2_;have GE109:=n3_;clear n0_ n1_ n2_ n3_;clear hb hbox hg) | ((with_reducible refine gate_callee (f:=94) rfl ?_);refine goesL_ (some 9) rfl rfl Try.func94 (by kernel_rfl) rfl #[.int .u64 (IntKind.u64.wrap ((a0.size:Int)))] rfl (by (try simp only [List.map_toArray,List.map_cons,List.map_nil]);first | done | rfl | (simp only [List.length_drop,List.length_take];rfl)) ?_;(with_reducible refine (bits_Len.calls (IntKind.u64.wrap ((a0.size:Int))) t110 _ A2.out).mono ?_);rintro e w11 ⟨rfl,hb⟩;refine ⟨_,rfl,?_⟩;have n0_:=Aside0.mk (blk_below (g:=gb109) (o:=.cells #[.int .i64 0,.string (⟨#[]⟩:ByteArray)] 81 (0,0)) (by (with_reducible repeat (first | refine blk_drewN ?_ _ | refine blk_drew ?_ | refine blk_alloc ?_ _));exact BK109.out) hb);have n1_:=Aside0.mk (below_step (by repeat (first | (with_reducible first | exact HB.out | apply below_alloc | apply pw_below_drewN | apply below_drew1 | refine below_set ?_ GE109.out) | exact HB.out)) hb);clear BK109;clear HB;have BK109:=n0_;have HB:=n1_;clear n0_ n1_;(try clear hb)) | ((with_reducible refine gate_callee (f:=61) rfl ?_);refine goesL_ (some 12) rfl rfl Try.func61 (by kernel_rfl) rfl #[.int .i64 ji5,.int .i64 1,.int .i64 5] rfl (by (try simp only [List.map_toArray,List.map_cons,List.map_nil]);first | done | (simp only [hji5];rfl) | rfl | (simp only [List.length_drop,List.length_take];rfl)) ?_;(with_reducible refine (card_within.calls ji5 1 5 true _ A3.out).mono ?_);rintro e w' ⟨rfl,⟨nd,rfl⟩⟩;refine ⟨_,rfl,?_⟩;(try (rw [drewN_self w11];generalize hq_:World.drewN w11 _ = w11;have n0_:Aside0 (w11.heap[gb109]? = some (.cells #[.int .i64 0,.string (⟨#[]⟩:ByteArray)] 81 (0,0))):=⟨by rw [← hq_];exact (by (with_reducible repeat (first | refine blk_drewN ?_ _ | refine blk_drew ?_ | refine blk_alloc ?_ _));exact BK109.out)⟩;have n1_:Aside0 (Below w.heap.size w w11):=⟨by rw [← hq_];exact (by repeat (first | (with_reducible first | exact HB.out | apply below_alloc | apply pw_below_drewN | apply below_drew1 | refine below_set ?_ GE109.out) | exact HB.out))⟩;clear BK109 HB hq_;have BK109:=n0_;have HB:=n1_;clear n0_ n1_))) | (go_at_call 95;(with_reducible refine (contains96.calls a0 t112 _ A9.out).mono ?_);rintro e w12 ⟨rfl,hb⟩;have n0_:=Aside0.mk (blk_below (g:=gb109) (o:=.cells #[.int .i64 0,.string (⟨#[]⟩:ByteArray)] 81 (0,0)) (by (with_reducible repeat (first | refine blk_drewN ?_ _ | refine blk_drew ?_ | refine blk_alloc ?_ _));exact BK109.out) hb);have n1_:=Aside0.mk (below_step (by repeat (first | (with_reducible first | exact HB.out | apply below_alloc | apply pw_below_drewN | apply below_drew1 | refine below_set ?_ GE109.out) | exact HB.out)) hb);clear BK109;clear HB;have BK109:=n0_;have HB:=n1_;clear n0_ n1_;(try clear hb);have hcz13_0:w12.cell? ⟨gb109,0,none⟩ = some (.int .i64 0):=(blk_cell BK109.out 0).trans rfl;have hcz13_1:w12.cell? ⟨gb109,1,none⟩ = some (.string (⟨#[]⟩:ByteArray)):=(blk_cell BK109.out 1).trans rfl;have hfz13_0:=blk_frozen BK109.out 0;have hfz13_1:=blk_frozen BK109.out 1))
 refine bodyPost_ret (results_ct rfl _ _ gb109 81 #[.int .i64 ji5,.string a0] (0,0) _ rfl (by (with_reducible repeat (first | refine blk_drewN ?_ _ | refine blk_drew ?_ | refine blk_alloc ?_ _));refine blk_put (cs:=#[.int .i64 ji5,.string (⟨#[]⟩:ByteArray)]) ?_ 1 _ rfl;(with_reducible repeat (first | refine blk_drewN ?_ _ | refine blk_drew ?_ | refine blk_alloc ?_ _));refine blk_put (cs:=#[.int .i64 0,.string (⟨#[]⟩:ByteArray)]) ?_ 0 _ rfl;(with_reducible repeat (first | refine blk_drewN ?_ _ | refine blk_drew ?_ | refine blk_alloc ?_ _));exact BK109.out) Try.underlying81 rfl (by kernel_rfl)) rfl ?_
 exact ⟨by first | rfl | (simp [errW_none,errW_some] <;> rfl) | (simp only [← hji5,← hji7];first | rfl | (simp [errW_none,errW_some] <;> rfl)) | (simp [*,errW_none,errW_some] <;> rfl),by repeat (first | (with_reducible first | exact HB.out | apply below_alloc | apply pw_below_drewN | apply below_drew1 | refine below_set ?_ GE109.out) | exact HB.out)⟩
end Go.Proofs.Ythpahlkhiknofaa.G
set_option linter.unusedSectionVars false
namespace Go.Proofs.Ythpahlkhiknofaa.P
open Go Go.RowKit Go.Proofs.Ythpahlkhiknofaa.M Go.Proofs.Ythpahlkhiknofaa.G
open Go.Proofs.YthpahlkhiknofaaW.PrintWords Go.Proofs.YthpahlkhiknofaaW.PrintMore
def lg (s:Nat):Nat:=if s = 2 then 1 else if s = 4 then 2 else if s = 8 then 3 else if s = 16 then 4 else if s = 32 then 5 else 0
theorem lg_table:∀ s:Fin 41,(lg s.val = 0 → ¬ (2 ≤ Lib.bitLen s.val ∧ Lib.bitLen s.val ≤ 6 ∧ s.val = 2 ^ (Lib.bitLen s.val - 1))) ∧ (lg s.val ≠ 0 → Lib.bitLen s.val = lg s.val + 1 ∧ s.val = 2 ^ lg s.val ∧ lg s.val ≤ 5) ∧ Lib.bitLen s.val ≤ 6:=by decide +kernel
/-- The number of variables of a function;0: it is none. -/
def fnN (c:ByteArray):Nat:=if okC c = true then lg c.size else 0
theorem fnN_pos {c:ByteArray} (hc:c.size ≤ 40) (h:fnN c ≠ 0):okC c = true ∧ c.size = 2 ^ fnN c ∧ 1 ≤ fnN c ∧ fnN c ≤ 5 ∧ c.size ≤ 32:=by
  unfold fnN at h ⊢
  by_cases ho:okC c = true
  · rw [if_pos ho] at h ⊢
    have:=(lg_table ⟨c.size,by omega⟩).2.1 h
    simp only at this
    have h2:2 ^ lg c.size ≤ 2 ^ 5:=Nat.pow_le_pow_right (by decide) this.2.2
    exact ⟨ho,this.2.1,by omega,this.2.2,by omega⟩
  · rw [if_neg ho] at h;exact absurd rfl h
section
variable {c:ByteArray} (hc:c.size ≤ 40)
include hc
theorem newF:∃ m:Int,(fnN c ≠ 0 → m = (fnN c:Int)) ∧ card_newFunction.f c = some (m,c,decide (fnN c ≠ 0)):=by
  have ht:=lg_table ⟨c.size,by omega⟩
  simp only at ht
  have hu:IntKind.u64.wrap (c.size:Int) = (c.size:Int):=wrap_u64_nat _ (by omega)
  have hb:bits_Len.f (c.size:Int) = some (Lib.bitLen c.size:Int):=by
    unfold bits_Len.f
    rw [if_pos (by omega),Int.toNat_natCast]
  have hw:wrap64 ((Lib.bitLen c.size:Int) - 1) = (Lib.bitLen c.size:Int) - 1:=wrap_id (by omega) (by omega)
  unfold card_newFunction.f
  rw [hu,hb,Option.bind_some,hw]
  unfold card_within.f
  by_cases hl:lg c.size = 0
  · have hn:fnN c = 0:=by unfold fnN;rw [hl];split <;> rfl
    have h1:=ht.1 hl
    refine ⟨(Lib.bitLen c.size:Int) - 1,fun h=>absurd hn h,?_⟩
    have hd:decide (fnN c ≠ 0) = false:=by rw [hn];rfl
    rw [hd]
    by_cases a1:(Lib.bitLen c.size:Int) - 1 ≥ 1
    · rw [if_pos a1,Option.bind_some]
      by_cases a2:(Lib.bitLen c.size:Int) - 1 ≤ 5
      · rw [if_pos (decide_eq_true a2),if_pos (by omega)]
        have e:(Lib.bitLen c.size:Int) - 1 = ((Lib.bitLen c.size - 1:Nat):Int):=by omega
        rw [e,shl_one (by omega),if_neg (fun h=>h1 ⟨by omega,by omega,by exact_mod_cast h⟩)]
      · rw [if_neg (by rw [decide_eq_false a2];decide)]
    · rw [if_neg a1,Option.bind_some,if_neg (by decide)]
  · obtain ⟨h1,h2,h3⟩:=ht.2.1 hl
    have e:(Lib.bitLen c.size:Int) - 1 = (lg c.size:Int):=by omega
    rw [e,if_pos (by omega),Option.bind_some,if_pos (decide_eq_true (by omega)),if_pos (by omega),shl_one (by omega),if_pos (by exact_mod_cast h2)]
    refine ⟨(lg c.size:Int),fun h=>?_,?_⟩
    · unfold fnN at h ⊢
      by_cases ho:okC c = true
      · rw [if_pos ho]
      · rw [if_neg ho] at h;exact absurd rfl h
    · unfold contains96.f
      rw [Option.bind_some,Bool.not_not]
      congr 3
      unfold fnN
      by_cases ho:okC c = true
      · rw [if_pos ho,ho,decide_eq_true hl]
      · have ho':okC c = false:=by simpa using ho
        rw [if_neg ho,ho'];rfl
end
end Go.Proofs.Ythpahlkhiknofaa.P
namespace Go.Proofs.Ythpahlkhiknofaa.P
open Go Go.RowKit Go.Proofs.YthpahlkhiknofaaW.PrintWords
theorem data_get {s:ByteArray} {i:Nat} (h:i < s.size):s.data.toList[i]'(by rw [data_length];exact h) = s[i]:=by
 rw [Array.getElem_toList];rfl
def noH (s:ByteArray):Bool:=allF (fun i=>decide (bt s (i:Int) ≠ 45)) s.size 0
theorem indexByte_pos (c:UInt8):∀ (l:List UInt8),decide (0 ≤ Lib.indexByte l c) = l.any (· == c)
 | []=>rfl
 | b :: l=>by
  have ih:=indexByte_pos c l
  have hg:=Lib.indexByte_ge l c
  rw [Lib.indexByte,List.any_cons]
  by_cases hb:(b == c) = true
  ·rw [if_pos hb,hb];rfl
  rw [if_neg hb]
  have hb':(b == c) = false:=by simpa using hb
  rw [hb',Bool.false_or,← ih]
  by_cases h:Lib.indexByte l c = -1
  ·rw [h];rfl
  rw [if_neg (by simpa using h)]
  rw [decide_eq_true (by omega),decide_eq_true (by omega)]
theorem any_hyphen (s:ByteArray):decide (0 ≤ Lib.indexByte s.data.toList 45) = !noH s:=by
 rw [indexByte_pos,Bool.eq_iff_iff,List.any_eq_true,Bool.not_eq_true',← Bool.not_eq_true]
 unfold noH
 rw [allF_iff]
 constructor
 ·rintro ⟨x,hx,he⟩ hall
  obtain ⟨i,hi,rfl⟩:=List.getElem_of_mem hx
  have hi':i < s.size:=by rw [← data_length];exact hi
  have:=hall i (by omega) (by omega)
  rw [decide_eq_true_eq] at this
  apply this
  rw [bt_get hi']
  have e:s[i] = 45:=by rw [← data_get hi'];simpa using he
  rw [e];rfl
 intro h
 have:∃ i,i < s.size ∧ bt s (i:Int) = 45:=by
  apply Classical.byContradiction
  intro hno
  apply h
  intro j _ hj
  rw [decide_eq_true_eq]
  exact fun he=>hno ⟨j,by omega,he⟩
 obtain ⟨i,hi,he⟩:=this
 refine ⟨s.data.toList[i]'(by rw [data_length];exact hi),List.getElem_mem _,?_⟩
 rw [data_get hi]
 rw [bt_get hi] at he
 have:s[i] = 45:=by
  rw [← UInt8.toNat_inj]
  show s[i].toNat = 45
  omega
 rw [this];rfl
end Go.Proofs.Ythpahlkhiknofaa.P
namespace Go.Proofs.Ythpahlkhiknofaa.G
open Go Go.RowKit Go.Proofs.YthpahlkhiknofaaW.PrintWords
def strings_Contains.f (a0 a1:ByteArray):Option Bool:=if a1 = ⟨#[45]⟩ then some (!P.noH a0) else none
theorem strings_Contains.calls (a0 a1:ByteArray) (r:Bool) (w:World) (h:strings_Contains.f a0 a1 = some r):Calls Try.prog 92 #[.string a0,.string a1] w fun e w'=>e = .returned (.bool r) ∧ Below w.heap.size w w':=by
 unfold strings_Contains.f at h
 by_cases hb:a1 = ⟨#[45]⟩
 case neg =>
  rw [if_neg hb] at h;cases h
 rw [if_pos hb] at h
 obtain rfl:=Option.some.inj h
 subst hb
 refine (Try.strings_Contains_one a0 45 w).mono fun e w' he=>?_
 obtain ⟨rfl,rfl⟩:=he
 exact ⟨by rw [P.any_hyphen],Below.refl _ _⟩
end Go.Proofs.Ythpahlkhiknofaa.G
namespace Go.Proofs.Ythpahlkhiknofaa.G
open Go.RowKit Go.Proofs.YthpahlkhiknofaaW.PrintWords Go.Proofs.YthpahlkhiknofaaW.PrintLast Go.Proofs.YthpahlkhiknofaaW.PrintMore
set_option maxHeartbeats 8000000
set_option maxRecDepth 100000
attribute [local go_sem] max2_int min2_int max_two min_two max_three min_three max_four min_four   -- for this text's walks alone
def card_newTotal.f (a0:ByteArray):Option (Int × ByteArray × Bool):=(card_newFunction.f a0).bind fun bt116=>(if bt116.2.2 = true then ((strings_Contains.f a0 (⟨#[45]⟩:ByteArray)).bind fun t120=>(some (bt116.1,bt116.2.1,!t120))) else (some (bt116.1,bt116.2.1,false)))
def card_newTotal.T2:Bool × List (List Nat × List Nat):=(true,[([],[]),([],[]),([1],[1]),([2],[2]),([3,2,2],[2,3]),([4,2],[2,4]),([2,5],[2,5]),([0,4,0],[0]),([6,7,0,1,2,3,4,5,6,7],[6])])
def card_newTotal.B2:List Nat:=[0,0,2,6,14,30,62,31,255]
theorem card_newTotal.tab2:rtab .any (opsOf Try.f58 2) = card_newTotal.T2:=by kernel_rfl
theorem card_newTotal.bits2:waitsOk card_newTotal.T2.2 card_newTotal.B2 = true:=by kernel_rfl
theorem card_newTotal.calls (a0:ByteArray) (r1:Int) (r2:ByteArray) (r3:Bool) (w:World) (h:card_newTotal.f a0 = some (r1,r2,r3)) :
  Calls Try.prog 58 #[.string a0] w fun e w'=>e = .returned (.tuple #[.agg #[.int .i64 r1,.string r2],.bool r3]) ∧ Below w.heap.size w w':=by
 have hu81:=Try.underlying81
 have HB:=Aside0.mk (Below.refl w.heap.size w)
 have H:((card_newFunction.f a0).bind fun bt116=>(if bt116.2.2 = true then ((strings_Contains.f a0 (⟨#[45]⟩:ByteArray)).bind fun t120=>(some (bt116.1,bt116.2.1,!t120))) else (some (bt116.1,bt116.2.1,false)))) = some (r1,r2,r3):=h
 clear h
 replace H:=Option.bind_eq_some_iff.mp H
 obtain ⟨⟨t116,t117,t118⟩,A20,H⟩:=H
 replace H:(if t118 = true then ((strings_Contains.f a0 (⟨#[45]⟩:ByteArray)).bind fun t120=>(some (t116,t117,!t120))) else (some (t116,t117,false))) = some (r1,r2,r3):=H
 have A2:=Aside0.mk A20
 clear A20
 by_cases c3:t118 = true
 case neg =>
  replace c3:=Bool.eq_false_iff.mpr c3
  subst c3
  have H1:(some (t116,t117,false)) = some (r1,r2,r3):=by rw [if_neg (show ¬ (false = true) by decide)] at H;exact H
  clear H
  have H:=H1
  clear H1
  simp only [Option.some.injEq,Prod.mk.injEq] at H
  obtain ⟨rfl,rfl,rfl⟩:=H
  go_enter Try.func58,Try.ntmps58
  try go_wp2_with (first | ((with_reducible refine gate_dst (N:=2) rfl ?_);refine box_event ?hg (N:=2) ?hd (cs:=#[.int .i64 0,.string (⟨#[]⟩:ByteArray)]) (t:=81) ?hr ?_;(case hd=>rfl);(case hg=>rfl);(case hr=>first | (go_simp;done) | (go_simp;rfl));intro gb115 hg w15 hbox hb;have n0_:=Aside0.mk (below_step (by repeat (first | (with_reducible first | exact HB.out | apply below_alloc | apply pw_below_drewN | apply below_drew1) | exact HB.out)) hb);have n1_:=Aside0.mk (hbox);have n2_:=Aside0.mk ((by rw [hg];exact (below_size (by repeat (first | (with_reducible first | exact HB.out | apply below_alloc | apply pw_below_drewN | apply below_drew1) | exact HB.out))):w.heap.size ≤ gb115));have n3_:=Aside0.mk ((by rw [hg];exact (below_size (by repeat (first | (with_reducible first | exact HB.out | apply below_alloc | apply pw_below_drewN | apply below_drew1) | exact HB.out))):w.heap.size ≤ gb115));clear HB;have HB:=n0_;have BK115:=n1_;have GW115:=n2_;have GE115:=n3_;clear n0_ n1_ n2_ n3_;clear hb hbox hg) | ((with_reducible refine gate_callee (f:=65) rfl ?_);refine goesL_ (some 8) rfl rfl Try.func65 (by kernel_rfl) rfl #[.string a0] rfl (by (try simp only [List.map_toArray,List.map_cons,List.map_nil]);first | done | rfl | (simp only [List.length_drop,List.length_take];rfl)) ?_;(with_reducible refine (card_newFunction.calls a0 t116 t117 false _ A2.out).mono ?_);rintro e w16 ⟨rfl,hb⟩;refine ⟨_,rfl,?_⟩;have n0_:=Aside0.mk (blk_below (g:=gb115) (o:=.cells #[.int .i64 0,.string (⟨#[]⟩:ByteArray)] 81 (0,0)) (by (with_reducible repeat (first | refine blk_drewN ?_ _ | refine blk_drew ?_ | refine blk_alloc ?_ _));exact BK115.out) hb);have n1_:=Aside0.mk (below_step (by repeat (first | (with_reducible first | exact HB.out | apply below_alloc | apply pw_below_drewN | apply below_drew1 | refine below_set ?_ GE115.out) | exact HB.out)) hb);clear BK115;clear HB;have BK115:=n0_;have HB:=n1_;clear n0_ n1_;(try clear hb)) | ((with_reducible refine gate_dst (N:=4) rfl ?_);refine box_event ?hg (N:=4) ?hd (cs:=#[.int .i64 0,.string (⟨#[]⟩:ByteArray)]) (t:=81) ?hr ?_;(case hd=>rfl);(case hg=>rfl);(case hr=>first | (go_simp;done) | (go_simp;rfl));intro gb119 hg w17 hbox hb;have n0_:=Aside0.mk (blk_below (g:=gb115) (o:=.cells #[.int .i64 0,.string (⟨#[]⟩:ByteArray)] 81 (0,0)) (by (with_reducible repeat (first | refine blk_drewN ?_ _ | refine blk_drew ?_ | refine blk_alloc ?_ _));exact BK115.out) hb);have n1_:=Aside0.mk (below_step (by repeat (first | (with_reducible first | exact HB.out | apply below_alloc | apply pw_below_drewN | apply below_drew1 | refine below_set ?_ GE115.out) | exact HB.out)) hb);have n2_:=Aside0.mk (hbox);have n3_:=Aside0.mk ((by rw [hg];exact (below_size (by repeat (first | (with_reducible first | exact HB.out | apply below_alloc | apply pw_below_drewN | apply below_drew1 | refine below_set ?_ GE115.out) | exact HB.out))):w.heap.size ≤ gb119));have n4_:=Aside0.mk ((by rw [hg];exact (below_size (by repeat (first | (with_reducible first | exact HB.out | apply below_alloc | apply pw_below_drewN | apply below_drew1 | refine below_set ?_ GE115.out) | exact HB.out))):w.heap.size ≤ gb119));have n5_:=Aside0.mk ((by rw [hg];exact Nat.ne_of_lt (blk_lt (g:=gb115) (o:=.cells #[.int .i64 0,.string (⟨#[]⟩:ByteArray)] 81 (0,0)) (by (with_reducible repeat (first | refine blk_drewN ?_ _ | refine blk_drew ?_ | refine blk_alloc ?_ _));exact BK115.out)):gb115 ≠ gb119));have n6_:=Aside0.mk ((by rw [hg];exact Nat.ne_of_gt (blk_lt (g:=gb115) (o:=.cells #[.int .i64 0,.string (⟨#[]⟩:ByteArray)] 81 (0,0)) (by (with_reducible repeat (first | refine blk_drewN ?_ _ | refine blk_drew ?_ | refine blk_alloc ?_ _));exact BK115.out)):gb119 ≠ gb115));clear BK115;clear HB;have BK115:=n0_;have HB:=n1_;have BK119:=n2_;have GW119:=n3_;have GE119:=n4_;have NB115_119:=n5_;have NB119_115:=n6_;clear n0_ n1_ n2_ n3_ n4_ n5_ n6_;clear hb hbox hg;have hnb18:=NB119_115.out;have hnc18:=NB115_119.out;have hcz19_0:w17.cell? ⟨gb119,0,none⟩ = some (.int .i64 0):=(blk_cell BK119.out 0).trans rfl;have hcz19_1:w17.cell? ⟨gb119,1,none⟩ = some (.string (⟨#[]⟩:ByteArray)):=(blk_cell BK119.out 1).trans rfl;have hfz19_0:=blk_frozen BK119.out 0;have hfz19_1:=blk_frozen BK119.out 1))
  have n0_:Aside0 (((w17.setCell ⟨gb119,0,none⟩ (.int .i64 t116)).setCell ⟨gb119,1,none⟩ (.string t117)).heap[gb115]? = some (.cells #[.int .i64 0,.string (⟨#[]⟩:ByteArray)] 81 (0,0))):=⟨by (with_reducible repeat (first | refine blk_drewN ?_ _ | refine blk_drew ?_ | refine blk_alloc ?_ _));refine blk_far ?_ NB115_119.out _;(with_reducible repeat (first | refine blk_drewN ?_ _ | refine blk_drew ?_ | refine blk_alloc ?_ _));refine blk_far ?_ NB115_119.out _;(with_reducible repeat (first | refine blk_drewN ?_ _ | refine blk_drew ?_ | refine blk_alloc ?_ _));exact BK115.out⟩
  have n1_:Aside0 (((w17.setCell ⟨gb119,0,none⟩ (.int .i64 t116)).setCell ⟨gb119,1,none⟩ (.string t117)).heap[gb119]? = some (.cells #[.int .i64 t116,.string t117] 81 (0,0))):=⟨by (with_reducible repeat (first | refine blk_drewN ?_ _ | refine blk_drew ?_ | refine blk_alloc ?_ _));refine blk_put (cs:=#[.int .i64 t116,.string (⟨#[]⟩:ByteArray)]) ?_ 1 _ rfl;(with_reducible repeat (first | refine blk_drewN ?_ _ | refine blk_drew ?_ | refine blk_alloc ?_ _));refine blk_put (cs:=#[.int .i64 0,.string (⟨#[]⟩:ByteArray)]) ?_ 0 _ rfl;(with_reducible repeat (first | refine blk_drewN ?_ _ | refine blk_drew ?_ | refine blk_alloc ?_ _));exact BK119.out⟩
  have n2_:Aside0 (Below w.heap.size w ((w17.setCell ⟨gb119,0,none⟩ (.int .i64 t116)).setCell ⟨gb119,1,none⟩ (.string t117))):=⟨by repeat (first | (with_reducible first | exact HB.out | apply below_alloc | apply pw_below_drewN | apply below_drew1 | refine below_set ?_ GE115.out | refine below_set ?_ GE119.out) | exact HB.out)⟩
  (try clear BK115)
  (try clear BK119)
  (try clear HB)
  generalize ((w17.setCell ⟨gb119,0,none⟩ (.int .i64 t116)).setCell ⟨gb119,1,none⟩ (.string t117)) = w20 at n0_ n1_ n2_ ⊢
  have BK115:=n0_
  have BK119:=n1_
  have HB:=n2_
  clear n0_ n1_ n2_
  have n0_:=Aside0.mk (blk_drew BK115.out)
  have n1_:=Aside0.mk (blk_drew BK119.out)
  have n2_:=Aside0.mk (below_drew1 HB.out)
  clear BK115
  clear BK119
  clear HB
  have BK115:=n0_
  have BK119:=n1_
  have HB:=n2_
  clear n0_ n1_ n2_
  refine start_ (n:=9) (S:=fun w'=>w'.cell? ⟨gb119,0,none⟩ = some (.int .i64 t116) ∧ w'.cell? ⟨gb119,1,none⟩ = some (.string t117)) (ds:=[]) #[false,false,false,false,false,false,false,false,false] (by kernel_rfl) rfl rfl ⟨(blk_cell BK119.out 0).trans rfl,(blk_cell BK119.out 1).trans rfl⟩ (fun hHeld=>?_);refine with_tabW card_newTotal.tab2 card_newTotal.bits2 (fun HT_ HW_=>?_)
  generalize w20.drew = w21 at BK115 BK119 HB hHeld ⊢
  refine pure_ (i:=1) (N:=some 12) (v:=?_) (a':=?_) #[false,true,false,false,false,false,false,false,false] rfl rfl (any_of HT_.out (by kernel_rfl)) (fun _ _ _ h=>h) (Or.inl ⟨by rfl,?_⟩) ?_ ?_
  rotate_left
  ·intro w'
   go_simp
   with_reducible rfl
  rotate_left
  ·simp only [Act.put,List.setIfInBounds_toArray,List.set_cons_zero,List.set_cons_succ,i64_w,i32_w]
   rfl
  refine pure_ (i:=2) (N:=some 13) (v:=?_) (a':=?_) #[false,true,true,false,false,false,false,false,false] rfl rfl (any_of HT_.out (by kernel_rfl)) (fun _ _ _ h=>h) (Or.inl ⟨by rfl,?_⟩) ?_ ?_
  rotate_left
  ·intro w'
   go_simp
   with_reducible rfl
  rotate_left
  ·simp only [Act.put,List.setIfInBounds_toArray,List.set_cons_zero,List.set_cons_succ,i64_w,i32_w]
   rfl
  refine pure_ (i:=3) (N:=some 14) (v:=undef) (a':=?_) #[false,true,true,true,false,false,false,false,false] rfl rfl (any_of HT_.out (by kernel_rfl)) (fun _ _ _ h=>h) (Or.inr ⟨by rfl,rfl⟩) ?_ ?_
  rotate_left
  ·simp only [Act.put,List.setIfInBounds_toArray,List.set_cons_zero,List.set_cons_succ,i64_w,i32_w]
   rfl
  refine pure_ (i:=4) (N:=some 15) (v:=undef) (a':=?_) #[false,true,true,true,true,false,false,false,false] rfl rfl (any_of HT_.out (by kernel_rfl)) (fun _ _ _ h=>h) (Or.inr ⟨by rfl,rfl⟩) ?_ ?_
  rotate_left
  ·simp only [Act.put,List.setIfInBounds_toArray,List.set_cons_zero,List.set_cons_succ,i64_w,i32_w]
   rfl
  refine pure_ (i:=5) (N:=some 16) (v:=undef) (a':=?_) #[false,true,true,true,true,true,false,false,false] rfl rfl (any_of HT_.out (by kernel_rfl)) (fun _ _ _ h=>h) (Or.inr ⟨by rfl,rfl⟩) ?_ ?_
  rotate_left
  ·simp only [Act.put,List.setIfInBounds_toArray,List.set_cons_zero,List.set_cons_succ,i64_w,i32_w]
   rfl
  refine pure_ (i:=6) (N:=some 17) (v:=?_) (a':=?_) #[false,true,true,true,true,true,true,false,false] rfl rfl (any_of HT_.out (by kernel_rfl)) (fun _ _ _ h=>h) (Or.inl ⟨by rfl,?_⟩) ?_ ?_
  rotate_left
  ·intro w'
   go_simp
   with_reducible rfl
  rotate_left
  ·simp only [Act.put,List.setIfInBounds_toArray,List.set_cons_zero,List.set_cons_succ,i64_w,i32_w]
   rfl
  refine take_ (i:=0) (N:=some 11) (v:=?_) (a':=?_) #[true,true,true,true,true,true,true,false,false] rfl rfl (take_ofW HT_.out HW_.out (by kernel_rfl)) (fun _ _ _ h=>h) (Or.inl ⟨by rfl,?_⟩) hHeld ?_ ?_
  rotate_left
  ·rintro w' ⟨s0,s1⟩
   go_simp
   with_reducible rfl
  rotate_left
  ·simp only [Act.put,List.setIfInBounds_toArray,List.set_cons_zero,List.set_cons_succ,i64_w,i32_w]
   rfl
  refine one_ (i:=7) (N:=none) #[true,true,true,true,true,true,true,true,false] rfl rfl (one_of HT_.out (by kernel_rfl)) (by decide) (fun K hK=>?_)
  have hs22:w21.cell? ⟨gb115,0,none⟩ = some (.int .i64 0):=(blk_cell BK115.out 0).trans rfl
  have hfs22:=blk_frozen BK115.out 0
  have hns22_1:=NB119_115.out
  have hms22_1:=NB115_119.out
  have hs23:w21.cell? ⟨gb115,1,none⟩ = some (.string (⟨#[]⟩:ByteArray)):=(blk_cell BK115.out 1).trans rfl
  have hfs23:=blk_frozen BK115.out 1
  have hns23_1:=NB119_115.out
  have hms23_1:=NB115_119.out
  refine skip_ (w1:=?_) (by rfl) rfl ?_ ?_
  rotate_left
  ·go_simp
   rfl
  refine hK.out _ _ ⟨((cell_far (p:=⟨gb115,_,none⟩) NB119_115.out _).trans (((cell_far (p:=⟨gb115,_,none⟩) NB119_115.out _).trans (hHeld.1)))),((cell_far (p:=⟨gb115,_,none⟩) NB119_115.out _).trans (((cell_far (p:=⟨gb115,_,none⟩) NB119_115.out _).trans (hHeld.2))))⟩ (fun hHeld=>?_)
  clear hK K
  refine pure_ (i:=8) (N:=some 3) (v:=?_) (a':=?_) #[true,true,true,true,true,true,true,true,true] rfl rfl (any_of HT_.out (by kernel_rfl)) (fun _ _ _ h=>h) (Or.inl ⟨by rfl,?_⟩) ?_ ?_
  rotate_left
  ·intro w'
   go_simp
   with_reducible rfl
  rotate_left
  ·simp only [Act.put,List.setIfInBounds_toArray,List.set_cons_zero,List.set_cons_succ,i64_w,i32_w]
   rfl
  refine done_ (done_of HT_.out (by kernel_rfl)) ?_
  try go_wp2
  refine bodyPost_ret (results_ct rfl _ _ gb115 81 #[.int .i64 t116,.string t117] (0,0) _ rfl (by (with_reducible repeat (first | refine blk_drewN ?_ _ | refine blk_drew ?_ | refine blk_alloc ?_ _));refine blk_put (cs:=#[.int .i64 t116,.string (⟨#[]⟩:ByteArray)]) ?_ 1 _ rfl;(with_reducible repeat (first | refine blk_drewN ?_ _ | refine blk_drew ?_ | refine blk_alloc ?_ _));refine blk_put (cs:=#[.int .i64 0,.string (⟨#[]⟩:ByteArray)]) ?_ 0 _ rfl;(with_reducible repeat (first | refine blk_drewN ?_ _ | refine blk_drew ?_ | refine blk_alloc ?_ _));exact BK115.out) Try.underlying81 rfl (by kernel_rfl)) rfl ?_
  exact ⟨by first | rfl | (simp [errW_none,errW_some] <;> rfl) | (simp [*,errW_none,errW_some] <;> rfl),by repeat (first | (with_reducible first | exact HB.out | apply below_alloc | apply pw_below_drewN | apply below_drew1 | refine below_set ?_ GE115.out | refine below_set ?_ GE119.out) | exact HB.out)⟩
 subst c3
 have H1:((strings_Contains.f a0 (⟨#[45]⟩:ByteArray)).bind fun t120=>(some (t116,t117,!t120))) = some (r1,r2,r3):=by rw [if_pos rfl] at H;exact H
 clear H
 have H:=H1
 clear H1
 replace H:=Option.bind_eq_some_iff.mp H
 obtain ⟨t120,A40,H⟩:=H
 replace H:(some (t116,t117,!t120)) = some (r1,r2,r3):=H
 have A4:=Aside0.mk A40
 clear A40
 simp only [Option.some.injEq,Prod.mk.injEq] at H
 obtain ⟨rfl,rfl,rfl⟩:=H
 go_enter Try.func58,Try.ntmps58
 try go_wp2_with (first | ((with_reducible refine gate_dst (N:=2) rfl ?_);refine box_event ?hg (N:=2) ?hd (cs:=#[.int .i64 0,.string (⟨#[]⟩:ByteArray)]) (t:=81) ?hr ?_;(case hd=>rfl);(case hg=>rfl);(case hr=>first | (go_simp;done) | (go_simp;rfl));intro gb115 hg w5 hbox hb;have n0_:=Aside0.mk (below_step (by repeat (first | (with_reducible first | exact HB.out | apply below_alloc | apply pw_below_drewN | apply below_drew1) | exact HB.out)) hb);have n1_:=Aside0.mk (hbox);have n2_:=Aside0.mk ((by rw [hg];exact (below_size (by repeat (first | (with_reducible first | exact HB.out | apply below_alloc | apply pw_below_drewN | apply below_drew1) | exact HB.out))):w.heap.size ≤ gb115));have n3_:=Aside0.mk ((by rw [hg];exact (below_size (by repeat (first | (with_reducible first | exact HB.out | apply below_alloc | apply pw_below_drewN | apply below_drew1) | exact HB.out))):w.heap.size ≤ gb115));clear HB;have HB:=n0_;have BK115:=n1_;have GW115:=n2_;have GE115:=n3_;clear n0_ n1_ n2_ n3_;clear hb hbox hg) | ((with_reducible refine gate_callee (f:=65) rfl ?_);refine goesL_ (some 8) rfl rfl Try.func65 (by kernel_rfl) rfl #[.string a0] rfl (by (try simp only [List.map_toArray,List.map_cons,List.map_nil]);first | done | rfl | (simp only [List.length_drop,List.length_take];rfl)) ?_;(with_reducible refine (card_newFunction.calls a0 t116 t117 true _ A2.out).mono ?_);rintro e w6 ⟨rfl,hb⟩;refine ⟨_,rfl,?_⟩;have n0_:=Aside0.mk (blk_below (g:=gb115) (o:=.cells #[.int .i64 0,.string (⟨#[]⟩:ByteArray)] 81 (0,0)) (by (with_reducible repeat (first | refine blk_drewN ?_ _ | refine blk_drew ?_ | refine blk_alloc ?_ _));exact BK115.out) hb);have n1_:=Aside0.mk (below_step (by repeat (first | (with_reducible first | exact HB.out | apply below_alloc | apply pw_below_drewN | apply below_drew1 | refine below_set ?_ GE115.out) | exact HB.out)) hb);clear BK115;clear HB;have BK115:=n0_;have HB:=n1_;clear n0_ n1_;(try clear hb)) | ((with_reducible refine gate_dst (N:=4) rfl ?_);refine box_event ?hg (N:=4) ?hd (cs:=#[.int .i64 0,.string (⟨#[]⟩:ByteArray)]) (t:=81) ?hr ?_;(case hd=>rfl);(case hg=>rfl);(case hr=>first | (go_simp;done) | (go_simp;rfl));intro gb119 hg w7 hbox hb;have n0_:=Aside0.mk (blk_below (g:=gb115) (o:=.cells #[.int .i64 0,.string (⟨#[]⟩:ByteArray)] 81 (0,0)) (by (with_reducible repeat (first | refine blk_drewN ?_ _ | refine blk_drew ?_ | refine blk_alloc ?_ _));exact BK115.out) hb);have n1_:=Aside0.mk (below_step (by repeat (first | (with_reducible first | exact HB.out | apply below_alloc | apply pw_below_drewN | apply below_drew1 | refine below_set ?_ GE115.out) | exact HB.out)) hb);have n2_:=Aside0.mk (hbox);have n3_:=Aside0.mk ((by rw [hg];exact (below_size (by repeat (first | (with_reducible first | exact HB.out | apply below_alloc | apply pw_below_drewN | apply below_drew1 | refine below_set ?_ GE115.out) | exact HB.out))):w.heap.size ≤ gb119));have n4_:=Aside0.mk ((by rw [hg];exact (below_size (by repeat (first | (with_reducible first | exact HB.out | apply below_alloc | apply pw_below_drewN | apply below_drew1 | refine below_set ?_ GE115.out) | exact HB.out))):w.heap.size ≤ gb119));have n5_:=Aside0.mk ((by rw [hg];exact Nat.ne_of_lt (blk_lt (g:=gb115) (o:=.cells #[.int .i64 0,.string (⟨#[]⟩:ByteArray)] 81 (0,0)) (by (with_reducible repeat (first | refine blk_drewN ?_ _ | refine blk_drew ?_ | refine blk_alloc ?_ _));exact BK115.out)):gb115 ≠ gb119));have n6_:=Aside0.mk ((by rw [hg];exact Nat.ne_of_gt (blk_lt (g:=gb115) (o:=.cells #[.int .i64 0,.string (⟨#[]⟩:ByteArray)] 81 (0,0)) (by (with_reducible repeat (first | refine blk_drewN ?_ _ | refine blk_drew ?_ | refine blk_alloc ?_ _));exact BK115.out)):gb119 ≠ gb115));clear BK115;clear HB;have BK115:=n0_;have HB:=n1_;have BK119:=n2_;have GW119:=n3_;have GE119:=n4_;have NB115_119:=n5_;have NB119_115:=n6_;clear n0_ n1_ n2_ n3_ n4_ n5_ n6_;clear hb hbox hg;have hnb8:=NB119_115.out;have hnc8:=NB115_119.out;have hcz9_0:w7.cell? ⟨gb119,0,none⟩ = some (.int .i64 0):=(blk_cell BK119.out 0).trans rfl;have hcz9_1:w7.cell? ⟨gb119,1,none⟩ = some (.string (⟨#[]⟩:ByteArray)):=(blk_cell BK119.out 1).trans rfl;have hfz9_0:=blk_frozen BK119.out 0;have hfz9_1:=blk_frozen BK119.out 1))
 have n0_:Aside0 (((w7.setCell ⟨gb119,0,none⟩ (.int .i64 t116)).setCell ⟨gb119,1,none⟩ (.string t117)).heap[gb115]? = some (.cells #[.int .i64 0,.string (⟨#[]⟩:ByteArray)] 81 (0,0))):=⟨by (with_reducible repeat (first | refine blk_drewN ?_ _ | refine blk_drew ?_ | refine blk_alloc ?_ _));refine blk_far ?_ NB115_119.out _;(with_reducible repeat (first | refine blk_drewN ?_ _ | refine blk_drew ?_ | refine blk_alloc ?_ _));refine blk_far ?_ NB115_119.out _;(with_reducible repeat (first | refine blk_drewN ?_ _ | refine blk_drew ?_ | refine blk_alloc ?_ _));exact BK115.out⟩
 have n1_:Aside0 (((w7.setCell ⟨gb119,0,none⟩ (.int .i64 t116)).setCell ⟨gb119,1,none⟩ (.string t117)).heap[gb119]? = some (.cells #[.int .i64 t116,.string t117] 81 (0,0))):=⟨by (with_reducible repeat (first | refine blk_drewN ?_ _ | refine blk_drew ?_ | refine blk_alloc ?_ _));refine blk_put (cs:=#[.int .i64 t116,.string (⟨#[]⟩:ByteArray)]) ?_ 1 _ rfl;(with_reducible repeat (first | refine blk_drewN ?_ _ | refine blk_drew ?_ | refine blk_alloc ?_ _));refine blk_put (cs:=#[.int .i64 0,.string (⟨#[]⟩:ByteArray)]) ?_ 0 _ rfl;(with_reducible repeat (first | refine blk_drewN ?_ _ | refine blk_drew ?_ | refine blk_alloc ?_ _));exact BK119.out⟩
 have n2_:Aside0 (Below w.heap.size w ((w7.setCell ⟨gb119,0,none⟩ (.int .i64 t116)).setCell ⟨gb119,1,none⟩ (.string t117))):=⟨by repeat (first | (with_reducible first | exact HB.out | apply below_alloc | apply pw_below_drewN | apply below_drew1 | refine below_set ?_ GE115.out | refine below_set ?_ GE119.out) | exact HB.out)⟩
 (try clear BK115)
 (try clear BK119)
 (try clear HB)
 generalize ((w7.setCell ⟨gb119,0,none⟩ (.int .i64 t116)).setCell ⟨gb119,1,none⟩ (.string t117)) = w10 at n0_ n1_ n2_ ⊢
 have BK115:=n0_
 have BK119:=n1_
 have HB:=n2_
 clear n0_ n1_ n2_
 have n0_:=Aside0.mk (blk_drew BK115.out)
 have n1_:=Aside0.mk (blk_drew BK119.out)
 have n2_:=Aside0.mk (below_drew1 HB.out)
 clear BK115
 clear BK119
 clear HB
 have BK115:=n0_
 have BK119:=n1_
 have HB:=n2_
 clear n0_ n1_ n2_
 refine start_ (n:=9) (S:=fun w'=>w'.cell? ⟨gb119,0,none⟩ = some (.int .i64 t116) ∧ w'.cell? ⟨gb119,1,none⟩ = some (.string t117)) (ds:=[]) #[false,false,false,false,false,false,false,false,false] (by kernel_rfl) rfl rfl ⟨(blk_cell BK119.out 0).trans rfl,(blk_cell BK119.out 1).trans rfl⟩ (fun hHeld=>?_);refine with_tabW card_newTotal.tab2 card_newTotal.bits2 (fun HT_ HW_=>?_)
 generalize w10.drew = w11 at BK115 BK119 HB hHeld ⊢
 refine pure_ (i:=1) (N:=some 12) (v:=?_) (a':=?_) #[false,true,false,false,false,false,false,false,false] rfl rfl (any_of HT_.out (by kernel_rfl)) (fun _ _ _ h=>h) (Or.inl ⟨by rfl,?_⟩) ?_ ?_
 rotate_left
 ·intro w'
  go_simp
  with_reducible rfl
 rotate_left
 ·simp only [Act.put,List.setIfInBounds_toArray,List.set_cons_zero,List.set_cons_succ,i64_w,i32_w]
  rfl
 refine pure_ (i:=2) (N:=some 13) (v:=?_) (a':=?_) #[false,true,true,false,false,false,false,false,false] rfl rfl (any_of HT_.out (by kernel_rfl)) (fun _ _ _ h=>h) (Or.inl ⟨by rfl,?_⟩) ?_ ?_
 rotate_left
 ·intro w'
  go_simp
  with_reducible rfl
 rotate_left
 ·simp only [Act.put,List.setIfInBounds_toArray,List.set_cons_zero,List.set_cons_succ,i64_w,i32_w]
  rfl
 refine pure_ (i:=3) (N:=some 14) (v:=?_) (a':=?_) #[false,true,true,true,false,false,false,false,false] rfl rfl (any_of HT_.out (by kernel_rfl)) (fun _ _ _ h=>h) (Or.inl ⟨by rfl,?_⟩) ?_ ?_
 rotate_left
 ·intro w'
  go_simp
  with_reducible rfl
 rotate_left
 ·simp only [Act.put,List.setIfInBounds_toArray,List.set_cons_zero,List.set_cons_succ,i64_w,i32_w]
  rfl
 refine take_ (i:=0) (N:=some 11) (v:=?_) (a':=?_) #[true,true,true,true,false,false,false,false,false] rfl rfl (take_ofW HT_.out HW_.out (by kernel_rfl)) (fun _ _ _ h=>h) (Or.inl ⟨by rfl,?_⟩) hHeld ?_ ?_
 rotate_left
 ·rintro w' ⟨s0,s1⟩
  go_simp
  with_reducible rfl
 rotate_left
 ·simp only [Act.put,List.setIfInBounds_toArray,List.set_cons_zero,List.set_cons_succ,i64_w,i32_w]
  rfl
 refine one_ (i:=4) (N:=some 15) #[true,true,true,true,true,false,false,false,false] rfl rfl (one_of HT_.out (by kernel_rfl)) (by decide) (fun K hK=>?_)
 refine goes_ Try.func92 (by kernel_rfl) rfl #[.string a0,.string (⟨#[45]⟩:ByteArray)] (by rfl) rfl rfl (by (try simp only [List.map_toArray,List.map_cons,List.map_nil]);first | done | rfl | (simp only [List.length_drop,List.length_take];rfl)) ?_
 with_reducible refine (strings_Contains.calls a0 (⟨#[45]⟩:ByteArray) t120 _ A4.out).mono ?_
 rintro e w12 ⟨rfl,hb⟩
 refine ⟨_,rfl,?_⟩
 have n0_:=Aside0.mk (blk_below (g:=gb115) (o:=.cells #[.int .i64 0,.string (⟨#[]⟩:ByteArray)] 81 (0,0)) (by (with_reducible repeat (first | refine blk_drewN ?_ _ | refine blk_drew ?_ | refine blk_alloc ?_ _));exact BK115.out) hb)
 have n1_:=Aside0.mk (blk_below (g:=gb119) (o:=.cells #[.int .i64 t116,.string t117] 81 (0,0)) (by (with_reducible repeat (first | refine blk_drewN ?_ _ | refine blk_drew ?_ | refine blk_alloc ?_ _));exact BK119.out) hb)
 have n2_:=Aside0.mk (below_step (by repeat (first | (with_reducible first | exact HB.out | apply below_alloc | apply pw_below_drewN | apply below_drew1 | refine below_set ?_ GE115.out | refine below_set ?_ GE119.out) | exact HB.out)) hb)
 clear BK115
 clear BK119
 clear HB
 have BK115:=n0_
 have BK119:=n1_
 have HB:=n2_
 clear n0_ n1_ n2_
 (try clear hb)
 refine hK.out _ _ ⟨(blk_cell BK119.out 0).trans rfl,(blk_cell BK119.out 1).trans rfl⟩ (fun hHeld=>?_)
 clear hK K
 refine norm_ (a':=?_) ?_ ?_
 rotate_left
 ·show Act.put _ (some 15) _ = _
  simp only [Act.put,List.setIfInBounds_toArray,List.set_cons_zero,List.set_cons_succ,i64_w,i32_w]
  rfl
 refine pure_ (i:=5) (N:=some 16) (v:=?_) (a':=?_) #[true,true,true,true,true,true,false,false,false] rfl rfl (any_of HT_.out (by kernel_rfl)) (fun _ _ _ h=>h) (Or.inl ⟨by rfl,?_⟩) ?_ ?_
 rotate_left
 ·intro w'
  go_simp
  with_reducible rfl
 rotate_left
 ·simp only [Act.put,List.setIfInBounds_toArray,List.set_cons_zero,List.set_cons_succ,i64_w,i32_w]
  rfl
 refine pure_ (i:=6) (N:=some 17) (v:=?_) (a':=?_) #[true,true,true,true,true,true,true,false,false] rfl rfl (any_of HT_.out (by kernel_rfl)) (fun _ _ _ h=>h) (Or.inl ⟨by rfl,?_⟩) ?_ ?_
 rotate_left
 ·intro w'
  go_simp
  with_reducible rfl
 rotate_left
 ·simp only [Act.put,List.setIfInBounds_toArray,List.set_cons_zero,List.set_cons_succ,i64_w,i32_w]
  rfl
 refine one_ (i:=7) (N:=none) #[true,true,true,true,true,true,true,true,false] rfl rfl (one_of HT_.out (by kernel_rfl)) (by decide) (fun K hK=>?_)
 have hs13:w12.cell? ⟨gb115,0,none⟩ = some (.int .i64 0):=(blk_cell BK115.out 0).trans rfl
 have hfs13:=blk_frozen BK115.out 0
 have hns13_1:=NB119_115.out
 have hms13_1:=NB115_119.out
 have hs14:w12.cell? ⟨gb115,1,none⟩ = some (.string (⟨#[]⟩:ByteArray)):=(blk_cell BK115.out 1).trans rfl
 have hfs14:=blk_frozen BK115.out 1
 have hns14_1:=NB119_115.out
 have hms14_1:=NB115_119.out
 refine skip_ (w1:=?_) (by rfl) rfl ?_ ?_
 rotate_left
 ·go_simp
  rfl
 refine hK.out _ _ ⟨((cell_far (p:=⟨gb115,_,none⟩) NB119_115.out _).trans (((cell_far (p:=⟨gb115,_,none⟩) NB119_115.out _).trans (hHeld.1)))),((cell_far (p:=⟨gb115,_,none⟩) NB119_115.out _).trans (((cell_far (p:=⟨gb115,_,none⟩) NB119_115.out _).trans (hHeld.2))))⟩ (fun hHeld=>?_)
 clear hK K
 refine pure_ (i:=8) (N:=some 3) (v:=?_) (a':=?_) #[true,true,true,true,true,true,true,true,true] rfl rfl (any_of HT_.out (by kernel_rfl)) (fun _ _ _ h=>h) (Or.inl ⟨by rfl,?_⟩) ?_ ?_
 rotate_left
 ·intro w'
  go_simp
  with_reducible rfl
 rotate_left
 ·simp only [Act.put,List.setIfInBounds_toArray,List.set_cons_zero,List.set_cons_succ,i64_w,i32_w]
  rfl
 refine done_ (done_of HT_.out (by kernel_rfl)) ?_
 try go_wp2
 refine bodyPost_ret (results_ct rfl _ _ gb115 81 #[.int .i64 t116,.string t117] (0,0) _ rfl (by (with_reducible repeat (first | refine blk_drewN ?_ _ | refine blk_drew ?_ | refine blk_alloc ?_ _));refine blk_put (cs:=#[.int .i64 t116,.string (⟨#[]⟩:ByteArray)]) ?_ 1 _ rfl;(with_reducible repeat (first | refine blk_drewN ?_ _ | refine blk_drew ?_ | refine blk_alloc ?_ _));refine blk_put (cs:=#[.int .i64 0,.string (⟨#[]⟩:ByteArray)]) ?_ 0 _ rfl;(with_reducible repeat (first | refine blk_drewN ?_ _ | refine blk_drew ?_ | refine blk_alloc ?_ _));exact BK115.out) Try.underlying81 rfl (by kernel_rfl)) rfl ?_
 exact ⟨by first | rfl | (simp [errW_none,errW_some] <;> rfl) | (simp [*,errW_none,errW_some] <;> rfl),by repeat (first | (with_reducible first | exact HB.out | apply below_alloc | apply pw_below_drewN | apply below_drew1 | refine below_set ?_ GE115.out | refine below_set ?_ GE119.out) | exact HB.out)⟩
end Go.Proofs.Ythpahlkhiknofaa.G
namespace Go.Proofs.Ythpahlkhiknofaa.H
open Go Go.RowKit Go.Shelf Go.Proofs.Ythpahlkhiknofaa.G Go.Proofs.Ythpahlkhiknofaa.P Go.Proofs.YthpahlkhiknofaaW.PrintWords Go.Proofs.YthpahlkhiknofaaW.PrintLast Go.Proofs.YthpahlkhiknofaaW.PrintMore
def rzL (xs:List Int) (n:Nat) (s:ByteArray):Nat → Nat → Int
 | 0,_=>0
 | d + 1,p=>if (decide (valS xs (p:Int) n (wrap64 (-rd xs (n:Int))) ≥ 0) != (bt s (p:Int) == 49)) = true then 10 else rzL xs n s d (p + 1)
def padL (l:List Int):List Int:=[rd l 0,rd l 1,rd l 2,rd l 3,rd l 4,rd l 5]
def bad60 (l:List Int):Bool:=l.any (fun x=>!decide (-1000000 ≤ x ∧ x ≤ 1000000))
def rzV (s:ByteArray) (l:List Int) (n:Nat) (ok:Bool):Int:=if ok = true ∧ l.length = n + 1 ∧ bad60 l = false then rzL (padL l) n s s.size 0 else 2
theorem below_cells {N g:Nat} {w0:World} (hg:N ≤ g):∀ (vs:List Value) (o:Nat) (W:World),Below N w0 W → Below N w0 (W.setCells g o vs)
 | [],_,_,h=>h
 | v :: r,o,W,h=>by
  rw [World.setCells]
  exact below_cells hg r (o + 1) _ (h.setCell hg _)
set_option maxRecDepth 100000 in
theorem copy_in (W:World) (l:List Int) (n:Nat) (hn:n ≤ 5) (hl:l.length = n + 1) (A:Option Addr) (c:Nat) (hC:Kd.C (Kd.int .i64) W A l.length l) :
  ∃ W4,(Builtin.copy_ #[22,22] 3 #[.slice (some { block:=W.heap.size,off:=0 }) 6 6,.slice A l.length c]).run Try.prog (W.alloc (stO 0 0 0 0 0 0)) = .ok (goInt l.length) W4 ∧ Below W.heap.size W W4 ∧ W4.heap[W.heap.size]? = some (.cells ((padL l).map (Value.int .i64)).toArray 88 (0,0)):=by
 have hC3:=Kd.C_alloc hC (stO 0 0 0 0 0 0)
 obtain ⟨ad,rfl,_⟩:=Kd.at_int hC3 0 (by omega) (by omega)
 have hh:=World.alloc_heap_new W (stO 0 0 0 0 0 0)
 have hlen:(l.map (Value.int .i64)).length = n + 1:=by rw [List.length_map,hl]
 have hr:=run_copy_cells (P:=Try.prog) (W.alloc (stO 0 0 0 0 0 0)) 22 22 3 3 W.heap.size 0 6 6 ad l.length c (l.map (Value.int .i64)) Try.underlying22 (by kernel_rfl) (by rw [hlen,hl];exact (Nat.min_eq_left (by omega)).symm) (fun j v hv=>by
  have hj:j < l.length:=by
   rcases Nat.lt_or_ge j l.length with h | h
   ·exact h
   rw [List.getElem?_eq_none (by rw [List.length_map];exact h)] at hv
   cases hv
  obtain ⟨ad',e,hc⟩:=Kd.at_int hC3 (j:Int) (by omega) (by omega)
  cases e
  rw [Int.toNat_natCast] at hc
  rw [hc,← hv,List.getElem?_map,List.getElem?_eq_getElem hj,rd_get hj];rfl) (fun j hj=>by
  rw [Nat.zero_add,st_cell 0 0 0 0 0 0 W (show j ≤ 5 by omega)];rfl) (fun j _=>by
  rw [Nat.zero_add];exact blk_frozen hh _) (by intro u hu;simp only [List.mem_map] at hu;obtain ⟨q,_,rfl⟩:=hu;rfl)
 obtain ⟨cur',h3,h4,h5⟩:=setCells_row (e:=88) (l.map (Value.int .i64)) 0 (W.alloc (stO 0 0 0 0 0 0)) _ hh (by rw [hlen];show _ ≤ 6;omega)
 rw [List.length_map] at hr
 refine ⟨_,hr,below_cells (Nat.le_refl _) _ _ _ ((Below.refl _ _).alloc (Nat.le_refl _) _),?_⟩
 rw [h3]
 have e:cur' = ((padL l).map (Value.int .i64)).toArray:=by
  rw [← Array.toArray_toList (xs:=cur'),h5]
  congr 1
  rcases l with _ | ⟨a,_ | ⟨b,_ | ⟨c,_ | ⟨d,_ | ⟨e,_ | ⟨f,_ | ⟨g,t⟩⟩⟩⟩⟩⟩⟩ <;> first | (exfalso;simp only [List.length_cons,List.length_nil] at hl;omega) | rfl | simp [padL,rd]
 rw [e]
set_option maxHeartbeats 4000000 in
set_option maxRecDepth 100000 in
theorem realize19 (s:ByteArray) (A:Option Addr) (c:Nat) (l:List Int) (w:World) (hl:Kd.C (Kd.int .i64) w A l.length l) (hlc:l.length ≤ c) (hlen:fitL l) (hsz:s.size ≤ 1000) (n:Nat) (ok:Bool) (hnew:card_newTotal.f s = some ((n:Int),s,ok)) (hn:n ≤ 5) :
  Calls Try.prog 19 #[.string s,.slice A l.length c] w fun e w'=>e = .returned (.int .i64 (rzV s l n ok)) ∧ Below w.heap.size w w':=by
 have HL:=Lib.hid hl
 clear hl
 have HN:=Lib.hid (card_newTotal.calls s n s ok w hnew)
 go_enter Try.func19,Try.ntmps19
 go_wp2_with fail
 refine HN.out.mono ?_
 rintro e w1 ⟨rfl,hb1⟩
 have HB1:=Lib.hid hb1
 clear hb1
 cases ok with
 | false =>
  go_wp2_with fail
  exact bodyPost_ret (v:=.int .i64 2) (results_tmp (t:=4) rfl _ _ _) rfl ⟨by unfold rzV;rw [if_neg (fun h=>by cases h.1)],HB1.out.alloc HB1.out.size _⟩
 | true =>
  obtain ⟨q,hq⟩:∃ q,((l.length:Int) != (n:Int) + 1) = q:=⟨_,rfl⟩
  have HQ:=Lib.hid hq
  cases q with
  | true =>
   have hq2:=bne_iff_ne.1 hq
   go_wp2_with fail
   exact bodyPost_ret (v:=.int .i64 2) (results_tmp (t:=4) rfl _ _ _) rfl ⟨by unfold rzV;rw [if_neg (fun h=>hq2 (by have:=h.2.1;omega))],HB1.out.alloc HB1.out.size _⟩
  | false =>
   have hq2:(l.length:Int) = (n:Int) + 1:=bne_eq_false_iff_eq.1 hq
   go_wp2_with fail
   have HC:=Lib.hid (contains60 A c l (w1.alloc (Obj.cells #[Value.int IntKind.i64 n,Value.string s] 81)) (Kd.C_alloc (Kd.C_below HL.out HB1.out) _) hlen)
   refine HC.out.mono ?_
   rintro e w2 ⟨rfl,hb2⟩
   have HB2:=Lib.hid hb2
   clear hb2
   obtain ⟨b,hb⟩:∃ b,bad60 l = b:=⟨_,rfl⟩
   have hb':(l.any fun x=>!decide (-1000000 ≤ x ∧ x ≤ 1000000)) = b:=hb
   rw [hb']
   have HBB:=Lib.hid hb
   clear hb hb'
   cases b with
   | true =>
    go_wp2_with fail
    exact bodyPost_ret (v:=.int .i64 2) (results_tmp (t:=4) rfl _ _ _) rfl ⟨by unfold rzV;rw [if_neg (fun h=>by rw [HBB.out] at h;cases h.2.2)],(HB1.out.alloc HB1.out.size _).trans (HB2.out.mono (by rw [World.size_alloc];have:=HB1.out.size;omega))⟩
   | false =>
    have hl1:l.length = n + 1:=by omega
    have HL1:=Lib.hid hl1
    have hC2:=Kd.C_below (Kd.C_alloc (Kd.C_below HL.out HB1.out) (Obj.cells #[Value.int IntKind.i64 n,Value.string s] 81)) HB2.out
    obtain ⟨W4,hr4,hb4,hh4⟩:=copy_in w2 l n hn hl1 A c hC2
    have hc4:W4.cell? { block:=w1.heap.size,off:=0 } = some (.int .i64 (n:Int)):=by
     have h1:(w1.alloc (Obj.cells #[Value.int IntKind.i64 n,Value.string s] 81)).cell? { block:=w1.heap.size,off:=0 } = some (.int .i64 (n:Int)):=by
      have h:=World.alloc_heap_new w1 (Obj.cells #[Value.int IntKind.i64 n,Value.string s] 81)
      unfold World.cell?;rw [h];rfl
     have hs2:=HB2.out.size
     rw [World.size_alloc] at hs2
     exact (hb4.cell (p:={ block:=w1.heap.size,off:=0 }) (by show w1.heap.size < _;omega)).trans ((HB2.out.cell (p:={ block:=w1.heap.size,off:=0 }) (by rw [World.size_alloc];exact Nat.lt_succ_self _)).trans h1)
    have HH4:=Lib.hid hh4
    have HC4:=Lib.hid hc4
    have HB4:=Lib.hid hb4
    unfold stO at hr4
    rw [hl1] at hr4
    have HR4:=Lib.hid hr4
    clear hh4 hc4 hb4 hr4
    go_wp2_with fail
    rw [HR4.out]
    simp only [Result.andThen_ok,Oper.uponIn_value]
    go_wp2_with fail
    go_loopg [33] s.size (fun k s33 W=>∃ p:Nat,s33 = .int .i64 (p:Int) ∧ p ≤ s.size ∧ s.size ≤ k + p ∧ Below W4.heap.size W4 W ∧ rzL (padL l) n s s.size 0 = rzL (padL l) n s (s.size - p) p)
    case atStart=>exact ⟨0,rfl,by omega,by omega,Below.refl _ _,rfl⟩
    case round =>
     obtain ⟨p,rfl,hp,hk,hB,hv⟩:=hrel
     have HB:=Lib.hid hB
     have HV:=Lib.hid hv
     clear hB hv
     have hg4:=blk_lt HH4.out
     have hWh:_ = _:=(HB.out.block w2.heap.size hg4).trans HH4.out
     by_cases hps:p < s.size
     case neg =>
      have:p = s.size:=by omega
      subst this
      go_wp2_with fail
      refine bodyPost_ret (v:=.int .i64 0) (results_tmp (t:=4) rfl _ _ _) rfl ⟨?_,?_⟩
      ·unfold rzV
       rw [if_pos ⟨rfl,HL1.out,HBB.out⟩,HV.out,Nat.sub_self];rfl
      have hs1:=HB1.out.size
      have hs2:=HB2.out.size
      rw [World.size_alloc] at hs2
      have hs4:=HB4.out.size
      exact (((HB1.out.alloc hs1 _).trans (HB2.out.mono (by rw [World.size_alloc];omega))).trans (HB4.out.mono (by omega))).trans (HB.out.mono (by omega))
     have hld:=run_loadVar_row (P:=Try.prog) _ w2.heap.size 88 88 _ (0,0) _ hWh Try.underlying88 rfl (by kernel_rfl)
     have hc:=(HB.out.cell (p:={ block:=w1.heap.size,off:=0 }) (World.block_lt_of_cell? _ _ HC4.out)).trans HC4.out
     have hbt:=bt_at s (p:Int)
     go_wp2_with fail
     refine start_ (n:=11) (S:=fun w'=>w'.heap[w2.heap.size]? = some (.cells ((padL l).map (Value.int .i64)).toArray 88 (0,0)) ∧ w'.cell? { block:=w1.heap.size,off:=0 } = some (.int .i64 (n:Int))) (ds:=[]) #[false,false,false,false,false,false,false,false,false,false,false] (by kernel_rfl) rfl rfl ⟨hWh,hc⟩ (fun hHeld=>?_)
     refine pure_ (i:=1) (N:=some 37) (v:=?_) (a':=?_) #[false,true,false,false,false,false,false,false,false,false,false] rfl rfl (by kernel_rfl) (fun _ _ _ h=>h) (Or.inl ⟨by rfl,?_⟩) ?_ ?_
     rotate_left
     ·intro w'
      go_simp
      with_reducible rfl
     rotate_left
     ·simp only [Act.put,List.setIfInBounds_toArray,List.set_cons_zero,List.set_cons_succ,i64_w,i32_w]
      rfl
     refine take_ (i:=0) (N:=some 36) (v:=?_) (a':=?_) #[true,true,false,false,false,false,false,false,false,false,false] rfl rfl (by kernel_rfl) (fun _ _ _ h=>h) (Or.inl ⟨by rfl,?_⟩) hHeld ?_ ?_
     rotate_left
     ·rintro w' ⟨s0,s1⟩
      have q0:w'.cell? { block:=w2.heap.size,off:=0 } = some (.int .i64 (rd l 0)):=(cell_of_row w' w2.heap.size 0 _ _ _ s0).trans rfl
      have q1:w'.cell? { block:=w2.heap.size,off:=1 } = some (.int .i64 (rd l 1)):=(cell_of_row w' w2.heap.size 1 _ _ _ s0).trans rfl
      have q2:w'.cell? { block:=w2.heap.size,off:=2 } = some (.int .i64 (rd l 2)):=(cell_of_row w' w2.heap.size 2 _ _ _ s0).trans rfl
      have q3:w'.cell? { block:=w2.heap.size,off:=3 } = some (.int .i64 (rd l 3)):=(cell_of_row w' w2.heap.size 3 _ _ _ s0).trans rfl
      have q4:w'.cell? { block:=w2.heap.size,off:=4 } = some (.int .i64 (rd l 4)):=(cell_of_row w' w2.heap.size 4 _ _ _ s0).trans rfl
      have q5:w'.cell? { block:=w2.heap.size,off:=5 } = some (.int .i64 (rd l 5)):=(cell_of_row w' w2.heap.size 5 _ _ _ s0).trans rfl
      go_simp
      with_reducible rfl
     rotate_left
     ·simp only [Act.put,List.setIfInBounds_toArray,List.set_cons_zero,List.set_cons_succ,i64_w,i32_w]
      rfl
     refine take_ (i:=2) (N:=some 38) (v:=?_) (a':=?_) #[true,true,true,false,false,false,false,false,false,false,false] rfl rfl (by kernel_rfl) (fun _ _ _ h=>h) (Or.inl ⟨by rfl,?_⟩) hHeld ?_ ?_
     rotate_left
     ·rintro w' ⟨s0,s1⟩
      have q0:w'.cell? { block:=w2.heap.size,off:=0 } = some (.int .i64 (rd l 0)):=(cell_of_row w' w2.heap.size 0 _ _ _ s0).trans rfl
      have q1:w'.cell? { block:=w2.heap.size,off:=1 } = some (.int .i64 (rd l 1)):=(cell_of_row w' w2.heap.size 1 _ _ _ s0).trans rfl
      have q2:w'.cell? { block:=w2.heap.size,off:=2 } = some (.int .i64 (rd l 2)):=(cell_of_row w' w2.heap.size 2 _ _ _ s0).trans rfl
      have q3:w'.cell? { block:=w2.heap.size,off:=3 } = some (.int .i64 (rd l 3)):=(cell_of_row w' w2.heap.size 3 _ _ _ s0).trans rfl
      have q4:w'.cell? { block:=w2.heap.size,off:=4 } = some (.int .i64 (rd l 4)):=(cell_of_row w' w2.heap.size 4 _ _ _ s0).trans rfl
      have q5:w'.cell? { block:=w2.heap.size,off:=5 } = some (.int .i64 (rd l 5)):=(cell_of_row w' w2.heap.size 5 _ _ _ s0).trans rfl
      go_simp
      with_reducible rfl
     rotate_left
     ·simp only [Act.put,List.setIfInBounds_toArray,List.set_cons_zero,List.set_cons_succ,i64_w,i32_w]
      rfl
     refine pure_ (i:=3) (N:=some 39) (v:=?_) (a':=?_) #[true,true,true,true,false,false,false,false,false,false,false] rfl rfl (by kernel_rfl) (fun _ _ _ h=>h) (Or.inl ⟨by rfl,?_⟩) ?_ ?_
     rotate_left
     ·intro w'
      go_simp
      with_reducible rfl
     rotate_left
     ·simp only [Act.put,List.setIfInBounds_toArray,List.set_cons_zero,List.set_cons_succ,i64_w,i32_w]
      rfl
     refine pure_ (i:=6) (N:=some 42) (v:=?_) (a':=?_) #[true,true,true,true,false,false,true,false,false,false,false] rfl rfl (by kernel_rfl) (fun _ _ _ h=>h) (Or.inl ⟨by rfl,?_⟩) ?_ ?_
     rotate_left
     ·intro w'
      go_simp
      with_reducible rfl
     rotate_left
     ·simp only [Act.put,List.setIfInBounds_toArray,List.set_cons_zero,List.set_cons_succ,i64_w,i32_w]
      rfl
     refine pure_ (i:=7) (N:=some 43) (v:=?_) (a':=?_) #[true,true,true,true,false,false,true,true,false,false,false] rfl rfl (by kernel_rfl) (fun _ _ _ h=>h) (Or.inl ⟨by rfl,?_⟩) ?_ ?_
     rotate_left
     ·intro w'
      go_simp
      with_reducible rfl
     rotate_left
     ·simp only [Act.put,List.setIfInBounds_toArray,List.set_cons_zero,List.set_cons_succ,i64_w,i32_w]
      rfl
     refine pure_ (i:=8) (N:=some 44) (v:=?_) (a':=?_) #[true,true,true,true,false,false,true,true,true,false,false] rfl rfl (by kernel_rfl) (fun _ _ _ h=>h) (Or.inl ⟨by rfl,?_⟩) ?_ ?_
     rotate_left
     ·intro w'
      go_simp
      with_reducible rfl
     rotate_left
     ·simp only [Act.put,List.setIfInBounds_toArray,List.set_cons_zero,List.set_cons_succ,i64_w,i32_w]
      rfl
     refine pure_ (i:=9) (N:=some 45) (v:=?_) (a':=?_) #[true,true,true,true,false,false,true,true,true,true,false] rfl rfl (by kernel_rfl) (fun _ _ _ h=>h) (Or.inl ⟨by rfl,?_⟩) ?_ ?_
     rotate_left
     ·intro w'
      go_simp
      with_reducible rfl
     rotate_left
     ·simp only [Act.put,List.setIfInBounds_toArray,List.set_cons_zero,List.set_cons_succ,i64_w,i32_w]
      rfl
     refine one_ (i:=4) (N:=some 40) #[true,true,true,true,true,false,true,true,true,true,false] rfl rfl (by kernel_rfl) (by decide) (fun K hK=>?_)
     refine call_ 62 #[stV (padL l),.int .i64 (n:Int),.int .i64 (p:Int)] (by rfl) rfl (by go_simp;rfl) ?_
     refine (value62 (rd l 0) (rd l 1) (rd l 2) (rd l 3) (rd l 4) (rd l 5) n hn (p:Int) _).mono ?_
     rintro e w5 ⟨rfl,hb5⟩
     have hst5:w5.heap[w2.heap.size]? = some (.cells ((padL l).map (Value.int .i64)).toArray 88 (0,0)) ∧ w5.cell? { block:=w1.heap.size,off:=0 } = some (.int .i64 (n:Int)):=⟨(hb5.block _ (blk_lt hHeld.1)).trans hHeld.1,(hb5.cell (p:={ block:=w1.heap.size,off:=0 }) (World.block_lt_of_cell? _ _ hHeld.2)).trans hHeld.2⟩
     have HB5:=Lib.hid ((below_drew1 HB.out).trans (hb5.mono HB.out.size))
     refine ⟨_,rfl,hK.out _ _ hst5 (fun _=>?_)⟩
     clear hK K
     obtain ⟨vv,hvv⟩:∃ v,valS [rd l 0,rd l 1,rd l 2,rd l 3,rd l 4,rd l 5] (p:Int) n (wrap64 (-rd [rd l 0,rd l 1,rd l 2,rd l 3,rd l 4,rd l 5] (n:Int))) = v:=⟨_,rfl⟩
     rw [hvv]
     refine pure_ (i:=5) (N:=some 41) (v:=?_) (a':=?_) #[true,true,true,true,true,true,true,true,true,true,false] rfl rfl (by kernel_rfl) (fun _ _ _ h=>h) (Or.inl ⟨by rfl,?_⟩) ?_ ?_
     rotate_left
     ·intro w'
      go_simp
      with_reducible rfl
     rotate_left
     ·simp only [Act.put,List.setIfInBounds_toArray,List.set_cons_zero,List.set_cons_succ,i64_w,i32_w]
      rfl
     refine pure_ (i:=10) (N:=some 46) (v:=?_) (a':=?_) #[true,true,true,true,true,true,true,true,true,true,true] rfl rfl (by kernel_rfl) (fun _ _ _ h=>h) (Or.inl ⟨by rfl,?_⟩) ?_ ?_
     rotate_left
     ·intro w'
      go_simp
      with_reducible rfl
     rotate_left
     ·simp only [Act.put,List.setIfInBounds_toArray,List.set_cons_zero,List.set_cons_succ,i64_w,i32_w]
      rfl
     refine done_ (by kernel_rfl) ?_
     have hstep:rzL (padL l) n s (s.size - p) p = if (decide (vv ≥ 0) != (bt s (p:Int) == 49)) = true then 10 else rzL (padL l) n s (s.size - (p + 1)) (p + 1):=by
      rw [← hvv,show s.size - p = (s.size - (p + 1)) + 1 by omega];rfl
     have HS:=Lib.hid hstep
     clear hstep
     obtain ⟨q,hq⟩:∃ q,(decide (vv ≥ 0) != (bt s (p:Int) == 49)) = q:=⟨_,rfl⟩
     have HQ5:=Lib.hid hq
     rw [bt_get hps] at hq
     simp only [ge_iff_le] at hq
     have hq':(!decide (0 ≤ vv) == (((s[p]).toNat:Int) == 49)) = q:=by
      rw [← hq];cases decide (0 ≤ vv) <;> cases (((s[p]).toNat:Int) == 49) <;> rfl
     rw [hq']
     clear hq hq'
     cases q with
     | true =>
      go_wp2_with fail
      refine bodyPost_ret (v:=.int .i64 10) (results_tmp (t:=4) rfl _ _ _) rfl ⟨?_,?_⟩
      ·unfold rzV
       rw [if_pos ⟨rfl,HL1.out,HBB.out⟩,HV.out,HS.out,if_pos HQ5.out]
      have hs1:=HB1.out.size
      have hs2:=HB2.out.size
      rw [World.size_alloc] at hs2
      have hs4:=HB4.out.size
      exact (((HB1.out.alloc hs1 _).trans (HB2.out.mono (by rw [World.size_alloc];omega))).trans (HB4.out.mono (by omega))).trans (HB5.out.mono (by omega))
     | false =>
      go_wp2_with fail
      go_roundg (s.size - (p + 1))
      case measure=>omega
      case rel=>exact ⟨p + 1,by simp,by omega,by omega,HB5.out,by rw [HV.out,HS.out,if_neg (by rw [HQ5.out];decide)]⟩
end Go.Proofs.Ythpahlkhiknofaa.H
namespace Go.Proofs.Ythpahlkhiknofaa.H
open Go Go.RowKit Go.Shelf Go.Proofs.Ythpahlkhiknofaa.G Go.Proofs.Ythpahlkhiknofaa.P Go.Proofs.YthpahlkhiknofaaW.PrintWords Go.Proofs.YthpahlkhiknofaaW.PrintLast Go.Proofs.YthpahlkhiknofaaW.PrintMore
set_option maxHeartbeats 4000000 in
set_option maxRecDepth 100000 in
theorem realize_no (s:ByteArray) (A:Option Addr) (len c:Nat) (w:World) (n:Int) (hnew:card_newTotal.f s = some (n,s,false)) :
  Calls Try.prog 19 #[.string s,.slice A len c] w fun e w'=>e = .returned (.int .i64 2) ∧ Below w.heap.size w w':=by
 have HN:=Lib.hid (card_newTotal.calls s n s false w hnew)
 go_enter Try.func19,Try.ntmps19
 go_wp2_with fail
 refine HN.out.mono ?_
 rintro e w1 ⟨rfl,hb1⟩
 have HB1:=Lib.hid hb1
 clear hb1
 go_wp2_with fail
 exact bodyPost_ret (v:=.int .i64 2) (results_tmp (t:=4) rfl _ _ _) rfl ⟨rfl,HB1.out.alloc HB1.out.size _⟩
end Go.Proofs.Ythpahlkhiknofaa.H
namespace Go.Proofs.Ythpahlkhiknofaa.G
open Go Go.RowKit Go.Proofs.YthpahlkhiknofaaW.PrintWords
def card_Realize.f (a0:ByteArray) (l1:List Int):Option (Int):=(card_newTotal.f a0).bind fun t=>if okT a0 t.1 t.2.1 t.2.2 ∧ H.fitL l1 then some (H.rzV a0 l1 t.1.toNat t.2.2) else none
theorem card_Realize.calls (a0:ByteArray) (A1:Option Addr) (c1:Nat) (l1:List Int) (r:Int) (w:World) (hr1:Kd.C (Kd.int .i64) w A1 l1.length l1) (hc1:l1.length ≤ c1) (h:card_Realize.f a0 l1 = some r) :
  Calls Try.prog 19 #[.string a0,.slice A1 l1.length c1] w fun e w'=>e = .returned (.int .i64 r) ∧ Below w.heap.size w w':=by
 unfold card_Realize.f at h
 obtain ⟨t,ht,h⟩:=Option.bind_eq_some_iff.1 h
 obtain ⟨n,s,ok⟩:=t
 by_cases hf:okT a0 n s ok ∧ H.fitL l1
 case neg =>
  rw [if_neg hf] at h
  cases h
 rw [if_pos hf] at h
 obtain rfl:=Option.some.inj h
 obtain ⟨⟨rfl,h1,h2⟩,h4⟩:=hf
 cases ok with
 | false =>
  have e:H.rzV a0 l1 n.toNat false = 2:=by unfold H.rzV;first | rfl | (rw [if_neg (by decide)]) | (rw [if_neg (fun h=>by cases h.1)])
  rw [show (H.rzV a0 l1 (n,a0,false).1.toNat (n,a0,false).2.2) = 2 from e]
  exact H.realize_no a0 A1 l1.length c1 w n ht
 | true =>
  obtain ⟨h2,h3⟩:=h2 rfl
  obtain ⟨m,rfl⟩:∃ m:Nat,n = (m:Int):=⟨n.toNat,by omega⟩
  have:=H.realize19 a0 A1 c1 l1 w hr1 hc1 h4 h1 m true ht (by omega)
  rwa [show m = ((m:Int)).toNat from rfl] at this
end Go.Proofs.Ythpahlkhiknofaa.G
namespace Go.Proofs.Ythpahlkhiknofaa.G
open Go Go.RowKit Go.Proofs.YthpahlkhiknofaaW.PrintWords Go.Proofs.YthpahlkhiknofaaW.PrintLast Go.Proofs.YthpahlkhiknofaaW.PrintMore
theorem below_of_drew (g:Nat) (w:World):Below g w w.drew:=below_drew (Below.refl g w)
def gone (cur:Array Value) (len i:Nat):List Value:=(cur.toList.take (len * 2)).drop ((i + 1) * 2)
theorem gone_len {cur:Array Value} {len i cap:Nat} (h:cur.size = cap * 2) (hl:len ≤ cap):(gone cur len i).length = (len - (i + 1)) * 2:=by
 unfold gone;rw [List.length_drop,List.length_take,Array.length_toList];omega
theorem cell_of {w:World} {g:Nat} {cur:Array Value} (h:w.heap[g]? = some (.cells cur 96 (0,0))) (j:Nat):w.cell? ⟨g,j,none⟩ = cur[j]?:=cell_of_row w g j cur 96 (0,0) h
def zz:List Value:=[.int .i64 0,.int .i64 0]
theorem run_clear_cube (w:World) (ty:TypeId) (g o c:Nat) (cur:Array Value) (h:w.heap[g]? = some (.cells cur 96 (0,0))) (hf:o + 2 ≤ cur.size) :
  (Builtin.clear_ #[93] ty #[.slice (some ⟨g,o,none⟩) 1 c]).run Try.prog w = .ok (.tuple #[]) (w.setCells g o zz):=by
 have hv:∀ w,(zeroValue 96).run Try.prog w = .ok (.agg #[.int .i64 0,.int .i64 0]) w:=fun w=>by kernel_rfl
 have hzc:(Builtin.zeroCells (Value.agg #[.int .i64 0,.int .i64 0]).cells 1).toList = zz:=by kernel_rfl
 have hc:∀ j,j < zz.length → (w.cell? ⟨g,o + 0 + j,none⟩).isSome = true:=fun j hj=>by
  have:j < 2:=hj
  rw [cell_of h,Array.getElem?_eq_getElem (by omega)];rfl
 have hst:=run_storeCells_cells (P:=Try.prog) g o zz 0 w hc (fun j _=>blk_frozen h _) (by
  intro v hv'
  simp only [zz,List.mem_cons,List.not_mem_nil,or_false] at hv'
  rcases hv' with rfl | rfl <;> rfl)
 simp only [Nat.add_zero] at hst
 simp [Builtin.clear_,run_underlying Try.underlying93,hv,hzc,hst]
set_option maxHeartbeats 8000000 in
set_option maxRecDepth 100000 in
theorem delete81 (g len cap i:Nat) (cur:Array Value) (w:World) (hh:w.heap[g]? = some (.cells cur 96 (0,0))) (hcap:cur.size = cap * 2) (hl:len ≤ cap) (hm:cap ≤ 9223372036854775807) (hi:i < len) (h1:∀ u ∈ cur.toList.take (len * 2),u.oneCell' = true) :
  Calls Try.prog 81 #[.slice (some ⟨g,0,none⟩) len cap,.int .i64 (i:Int),.int .i64 ((i:Int) + 1)] w fun e w'=>∃ cur':Array Value,e = .returned (.slice (some ⟨g,0,none⟩) (len - 1) cap) ∧ w'.heap[g]? = some (.cells cur' 96 (0,0)) ∧ cur'.toList.take ((len - 1) * 2) = cur.toList.take (i * 2) ++ gone cur len i ∧ Below g w w':=by
 have HH:=Lib.hid hh
 clear hh
 obtain ⟨info,hinf⟩:∃ x,Try.prog.info? 96 = some x:=⟨_,rfl⟩
 have hsz:info.size = 2:=by
  have:=info96
  rw [hinf] at this
  simp only [Option.map_some,Option.some.injEq,Prod.mk.injEq] at this
  exact this.2.1
 have HI:=Lib.hid hinf
 have HSZ:=Lib.hid hsz
 have HCAP:=Lib.hid hcap
 have s1:=Lib.hid (gone_len (i:=i) hcap hl)
 have s2:Hid (∀ u ∈ gone cur len i,u.oneCell' = true):=Lib.hid fun u hu=>h1 u (List.mem_of_mem_drop hu)
 have s3:Hid (∀ j,j < (gone cur len i).length → (w.drew.cell? ⟨g,0 + i * 2 + j,none⟩).isSome = true ∧ w.drew.frozen? ⟨g,0 + i * 2 + j,none⟩ = false):=Lib.hid fun j hj=>by
  rw [s1.out] at hj
  have hc:=cell_of (w:=w.drew) (show w.drew.heap[g]? = _ from HH.out) (0 + i * 2 + j)
  exact ⟨by rw [hc,Array.getElem?_eq_getElem (by omega)];rfl,blk_frozen (show w.drew.heap[g]? = _ from HH.out) _⟩
 clear hinf hsz hcap h1
 by_cases hc:cap = i + 1
 ·subst hc
  have hlen:len = i + 1:=by omega
  subst hlen
  have hnews:Hid (∀ j u,(gone cur (i + 1) i)[j]? = some u → w.drew.cell? ((⟨g,0,none⟩:Addr).add j) = some u):=Lib.hid fun j u hu=>by
   have:=s1.out
   rw [List.getElem?_eq_none (by rw [this];omega)] at hu
   cases hu
  have hic:i ≤ (i + 1):=by omega
  have hp0:(0:Int) ≤ (i:Int) + 1:=by omega
  have hp1:(i:Int) + 1 ≤ ((i + 1):Int):=by omega
  have hp2:((i:Int) + 1).toNat = i + 1:=by omega
  have hp3:(i:Int) ≤ (i:Int) + 1:=by omega
  have hp4:((i:Int) == (i:Int) + 1) = false:=by rw [beq_eq_false_iff_ne];omega
  go_enter Try.func81,Try.ntmps81
  go_wp2_with fail
  go_region_law (refine step_append_room rfl (.tmp 22) (.tmp 25) 93 rfl 96 info 2 Try.underlying93 HI.out HSZ.out g 0 i (i + 1) (by simp [Act.eval,Act.put]) ⟨g,0,none⟩ ((i + 1) - (i + 1)) ((i + 1) - (i + 1)) (gone cur (i + 1) i) (by simp [Act.eval,Act.put]) s1.out hnews.out s2.out (by omega) s3.out ?_)
  obtain ⟨cur1,g1,g2,g3⟩:=setCells_row (e:=96) (gone cur (i + 1) i) (i * 2) w.drew _ (show w.drew.heap[g]? = _ from HH.out) (by have:=HCAP.out;rw [s1.out];omega)
  have hb1:Below g w (w.drew.setCells g (i * 2) (gone cur (i + 1) i)):=H.below_cells (Nat.le_refl _) _ _ _ (below_of_drew g w)
  obtain ⟨W1,hW1⟩:∃ W,w.drew.setCells g (i * 2) (gone cur (i + 1) i) = W:=⟨_,rfl⟩
  rw [hW1] at g1 hb1 ⊢
  have G1:=Lib.hid g1
  have G2:=Lib.hid g2
  have G3:=Lib.hid g3
  have HB1:=Lib.hid hb1
  have hle:i ≤ i + 1:=by omega
  have hle2:((i:Nat):Int) ≤ ((i + 1):Int):=by omega
  have hle3:(i + 1) ≤ (i + 1):=hl
  clear g1 g2 g3 hb1 hW1
  go_wp2_with fail
  rw [run_clear_cube W1 0 g (i * 2) _ cur1 G1.out (by rw [G2.out,HCAP.out];omega)]
  simp only [Result.andThen_ok]
  obtain ⟨cur2,k1,k2,k3⟩:=setCells_row (e:=96) zz (i * 2) W1 _ G1.out (by have:=G2.out;have:=HCAP.out;show _ + 2 ≤ _;omega)
  have hb2:Below g w (W1.setCells g (i * 2) zz):=H.below_cells (Nat.le_refl _) _ _ _ HB1.out
  obtain ⟨W2,hW2⟩:∃ W,W1.setCells g (i * 2) zz = W:=⟨_,rfl⟩
  rw [hW2] at k1 hb2 ⊢
  have K1:=Lib.hid k1
  have K3:=Lib.hid k3
  have HB2:=Lib.hid hb2
  clear k1 k2 k3 hb2 hW2
  go_wp2_with fail
  refine bodyPost_ret (v:=.slice (some ⟨g,0,none⟩) i (i + 1)) (results_tmp (t:=6) rfl _ _ _) rfl ⟨cur2,rfl,K1.out,?_,HB2.out⟩
  have e1:(i * 2 + (gone cur (i + 1) i).length) = i * 2:=by rw [s1.out];omega
  have e3:(cur.toList.take (i * 2) ++ gone cur (i + 1) i).length = i * 2:=by
   rw [List.length_append,List.length_take,Array.length_toList,HCAP.out];omega
  rw [show i + 1 - 1 = i by omega,K3.out,List.append_assoc,List.take_append_of_le_length (by rw [List.length_take,Array.length_toList,G2.out,HCAP.out];omega),List.take_take,Nat.min_self,G3.out,List.take_append_of_le_length (by omega),List.take_of_length_le (by omega)]
 have hnews:Hid (∀ j u,(gone cur len i)[j]? = some u → w.drew.cell? ((⟨g,(i + 1) * 2,none⟩:Addr).add j) = some u):=Lib.hid fun j u hu=>by
  have hc:=cell_of (w:=w.drew) (show w.drew.heap[g]? = _ from HH.out) ((i + 1) * 2 + j)
  rw [Addr.add_lit,hc]
  unfold gone at hu
  rw [List.getElem?_drop,List.getElem?_take] at hu
  split at hu
  ·rw [← Array.getElem?_toList];exact hu
  cases hu
 have hic:i ≤ cap:=by omega
 have hp0:(0:Int) ≤ (i:Int) + 1:=by omega
 have hp1:(i:Int) + 1 ≤ (len:Int):=by omega
 have hp2:((i:Int) + 1).toNat = i + 1:=by omega
 have hp3:(i:Int) ≤ (i:Int) + 1:=by omega
 have hp4:((i:Int) == (i:Int) + 1) = false:=by rw [beq_eq_false_iff_ne];omega
 go_enter Try.func81,Try.ntmps81
 go_wp2_with fail
 go_region_law (refine step_append_room rfl (.tmp 22) (.tmp 25) 93 rfl 96 info 2 Try.underlying93 HI.out HSZ.out g 0 i cap (by simp [Act.eval,Act.put]) ⟨g,(i + 1) * 2,none⟩ (len - (i + 1)) (cap - (i + 1)) (gone cur len i) (by simp [Act.eval,Act.put]) s1.out hnews.out s2.out (by omega) s3.out ?_)
 have hn:i + (len - (i + 1)) = len - 1:=by omega
 rw [hn]
 obtain ⟨cur1,g1,g2,g3⟩:=setCells_row (e:=96) (gone cur len i) (i * 2) w.drew _ (show w.drew.heap[g]? = _ from HH.out) (by have:=HCAP.out;rw [s1.out];omega)
 have hb1:Below g w (w.drew.setCells g (i * 2) (gone cur len i)):=H.below_cells (Nat.le_refl _) _ _ _ (below_of_drew g w)
 obtain ⟨W1,hW1⟩:∃ W,w.drew.setCells g (i * 2) (gone cur len i) = W:=⟨_,rfl⟩
 rw [hW1] at g1 hb1 ⊢
 have G1:=Lib.hid g1
 have G2:=Lib.hid g2
 have G3:=Lib.hid g3
 have HB1:=Lib.hid hb1
 have hle:len - 1 ≤ len:=by omega
 have hle2:((len - 1:Nat):Int) ≤ (len:Int):=by omega
 have hle3:len ≤ cap:=hl
 clear g1 g2 g3 hb1 hn hW1
 go_wp2_with fail
 rw [show len - (len - 1) = 1 by omega,run_clear_cube W1 0 g ((len - 1) * 2) _ cur1 G1.out (by rw [G2.out,HCAP.out];omega)]
 simp only [Result.andThen_ok]
 obtain ⟨cur2,k1,k2,k3⟩:=setCells_row (e:=96) zz ((len - 1) * 2) W1 _ G1.out (by have:=G2.out;have:=HCAP.out;show _ + 2 ≤ _;omega)
 have hb2:Below g w (W1.setCells g ((len - 1) * 2) zz):=H.below_cells (Nat.le_refl _) _ _ _ HB1.out
 obtain ⟨W2,hW2⟩:∃ W,W1.setCells g ((len - 1) * 2) zz = W:=⟨_,rfl⟩
 rw [hW2] at k1 hb2 ⊢
 have K1:=Lib.hid k1
 have K3:=Lib.hid k3
 have HB2:=Lib.hid hb2
 clear k1 k2 k3 hb2 hW2
 go_wp2_with fail
 refine bodyPost_ret (v:=.slice (some ⟨g,0,none⟩) (len - 1) cap) (results_tmp (t:=6) rfl _ _ _) rfl ⟨cur2,rfl,K1.out,?_,HB2.out⟩
 have e1:(i * 2 + (gone cur len i).length) = (len - 1) * 2:=by rw [s1.out];omega
 have e3:(cur.toList.take (i * 2) ++ gone cur len i).length = (len - 1) * 2:=by
  rw [List.length_append,List.length_take,Array.length_toList,HCAP.out];omega
 rw [K3.out,List.append_assoc,List.take_append_of_le_length (by rw [List.length_take,Array.length_toList,G2.out,HCAP.out];omega),List.take_take,Nat.min_self,G3.out,List.take_append_of_le_length (by omega),List.take_of_length_le (by omega)]
end Go.Proofs.Ythpahlkhiknofaa.G
namespace Go.Proofs.Ythpahlkhiknofaa.G
open Go.RowKit Go.Proofs.YthpahlkhiknofaaW.PrintWords Go.Proofs.YthpahlkhiknofaaW.PrintLast Go.Proofs.YthpahlkhiknofaaW.PrintMore
set_option maxHeartbeats 8000000
set_option maxRecDepth 100000
attribute [local go_sem] max2_int min2_int max_two min_two max_three min_three max_four min_four   -- for this text's walks alone
def card_function_cubes.l0:Nat → List ByteArray → List (S96) → List ByteArray → Int → Int → Int → ByteArray → Option ((List (S96)) × Bool)
 | 0,_,_,_,_,_,_,_=>none
 | k + 1,x1,x6,x11,x12,x13,x363000,x363001=>if x13 < x12 then (if 0 ≤ x13 then (if x13 < (x11.length:Int) then ((card_newCube.f k (rdOf ByteArray.empty x11 x13)).bind fun bt364=>(if bt364.2.2 = true then (if ((rdOf ByteArray.empty x11 x13).size:Int) = x363000 then (if (x1.length:Int) > 32 then (some (([]:List (S96)),false)) else (if x6.length < 8796093022208 then (card_function_cubes.l0 k x1 (x6 ++ [(⟨bt364.1,bt364.2.1⟩:S96)]) x11 x12 (wrap64 (x13 + 1)) x363000 x363001) else (none))) else (some (([]:List (S96)),false))) else (some (([]:List (S96)),false)))) else (none)) else (none)) else (some (x6,true))
def card_function_cubes.f (k:Nat) (a0_0:Int) (a0_1:ByteArray) (l1:List ByteArray):Option ((List (S96)) × Bool):=card_function_cubes.l0 k l1 ([]:List (S96)) l1 (l1.length:Int) 0 a0_0 a0_1
theorem card_function_cubes.mono_l:∀ k,(∀ y0 y1 y2 y3 y4 y5 y6,LeO (card_function_cubes.l0 k y0 y1 y2 y3 y4 y5 y6) (card_function_cubes.l0 (k + 1) y0 y1 y2 y3 y4 y5 y6))
 | 0=>fun _ _ _ _ _ _ _ r h=>by simp [card_function_cubes.l0] at h
 | k + 1=>by
  have ih0:=card_function_cubes.mono_l k
  intro y0 y1 y2 y3 y4 y5 y6
  unfold card_function_cubes.l0
  repeat' first
  | (with_reducible exact ih0 _ _ _ _ _ _ _)
  | (with_reducible exact card_newCube.mono _ _)
  | (with_reducible exact LeO.refl _)
  | (with_reducible exact LeO.none _)
  | (with_reducible refine LeO.ite ?_ ?_)
  | (with_reducible refine LeO.bind ?_ (fun _=>?_))
  | exact ih0 _ _ _ _ _ _ _
  | exact card_newCube.mono _ _
  | exact LeO.none _
  | refine LeO.ite ?_ ?_
  | refine LeO.bind ?_ (fun _=>?_)
theorem card_function_cubes.mono:∀ a0 a1 a2 k,LeO (card_function_cubes.f k a0 a1 a2) (card_function_cubes.f (k + 1) a0 a1 a2):=by
 intro a0 a1 a2 k
 have ih0:=card_function_cubes.mono_l k
 unfold card_function_cubes.f
 repeat' first
   | (with_reducible exact ih0 _ _ _ _ _ _ _)
   | (with_reducible exact card_newCube.mono _ _)
   | (with_reducible exact LeO.refl _)
   | (with_reducible exact LeO.none _)
   | (with_reducible refine LeO.ite ?_ ?_)
   | (with_reducible refine LeO.bind ?_ (fun _=>?_))
   | exact ih0 _ _ _ _ _ _ _
   | exact card_newCube.mono _ _
   | exact LeO.none _
   | refine LeO.ite ?_ ?_
   | refine LeO.bind ?_ (fun _=>?_)
theorem card_function_cubes.calls (k:Nat) (a0_0:Int) (a0_1:ByteArray) (A1:Option Addr) (c1:Nat) (l1:List ByteArray) (r1:List (S96)) (r2:Bool) (w:World) (hr1:Kd.C Kd.string w A1 l1.length l1) (hc1:l1.length ≤ c1) (h:card_function_cubes.f k a0_0 a0_1 l1 = some (r1,r2)) :
  Calls Try.prog 77 #[.agg #[.int .i64 a0_0,.string a0_1],.slice A1 l1.length c1] w fun e w'=>∃ v0_:Value,e = .returned (.tuple #[v0_,.bool r2]) ∧ Kd.R k96 96 w' w.heap.size (fun _=>True) v0_ r1 ∧ Below w.heap.size w w':=by
 have hu81:=Try.underlying81
 have hu96:=Try.underlying96
 have HR1:=Aside0.mk hr1
 have HC1:=Aside0.mk hc1
 clear hr1 hc1
 have HB:=Aside0.mk (Below.refl w.heap.size w)
 have H:(card_function_cubes.l0 k l1 ([]:List (S96)) l1 (l1.length:Int) 0 a0_0 a0_1) = some (r1,r2):=h
 clear h
 have H':=Aside0.mk H
 clear H
 go_enter Try.func77,Try.ntmps77
 go_wp2_with (first | ((with_reducible refine gate_dst (N:=2) rfl ?_);(try (refine gate_guard (by rfl) ?_;dsimp only));refine box_event ?hg (N:=2) ?hd (cs:=#[.int .i64 a0_0,.string a0_1]) (t:=81) ?hr ?_;(case hd=>rfl);(case hg=>rfl);(case hr=>first | (go_simp;done) | (go_simp;rfl));intro gb362 hg w3 hbox hb;have n0_:=Aside0.mk (below_step (by repeat (first | (with_reducible first | exact HB.out | apply below_alloc | apply pw_below_drewN | apply below_drew1) | exact HB.out)) hb);have n1_:=Aside0.mk (hbox);have n2_:=Aside0.mk ((by rw [hg];exact (below_size (by repeat (first | (with_reducible first | exact HB.out | apply below_alloc | apply pw_below_drewN | apply below_drew1) | exact HB.out))):w.heap.size ≤ gb362));have n3_:=Aside0.mk ((by rw [hg];exact (below_size (by repeat (first | (with_reducible first | exact HB.out | apply below_alloc | apply pw_below_drewN | apply below_drew1) | exact HB.out))):w.heap.size ≤ gb362));clear HB;have HB:=n0_;have BK362:=n1_;have GW362:=n2_;have GE362:=n3_;clear n0_ n1_ n2_ n3_;clear hb hbox hg))
 go_loopg [6,13] k (fun kq v6 v13 w'=>∃ (x6_1:List (S96)) (x13_1:Int),v13 = .int .i64 x13_1 ∧ Aside0 (card_function_cubes.l0 kq l1 x6_1 l1 (l1.length:Int) x13_1 a0_0 a0_1 = some (r1,r2)) ∧ Aside0 (kq ≤ k) ∧ Aside0 (Kd.R k96 96 w' w.heap.size (fun _=>True) v6 x6_1) ∧ Aside0 (w'.heap[gb362]? = some (.cells #[.int .i64 a0_0,.string a0_1] 81 (0,0))) ∧ Aside0 (Below w.heap.size w w'))
 case atStart=>exact ⟨(([]:List (S96))),(0),(by first | rfl | (simp;done) | (simp [*];done)),H',⟨Nat.le_refl _⟩,⟨by first | exact Kd.R_nil _ _ _ _ _ | exact Kd.N_nil _ _ _ _ _ | exact Kd.V_nil _ _ _ _ _ | exact Kd.Q_nil _ _ _ _ _ | exact Kd.S_nil _ _ _ _ _⟩,⟨by (with_reducible repeat (first | refine blk_drewN ?_ _ | refine blk_drew ?_ | refine blk_alloc ?_ _));exact BK362.out⟩,⟨by repeat (first | (with_reducible first | exact HB.out | apply below_alloc | apply pw_below_drewN | apply below_drew1 | refine below_set ?_ GE362.out) | exact HB.out)⟩⟩
 case round =>
  clear H'
  try clear c1
  try clear p2
  obtain ⟨x6_1,x13_1,rfl,HA,HK1,HO_6,BK362,HB⟩:=hrel
  cases gk with
  | zero=>exact absurd HA.out (by simp [card_function_cubes.l0])
  | succ k1 =>
   have H:=HA.out
   clear HA
   simp only [card_function_cubes.l0] at H
   by_cases c4:x13_1 < (l1.length:Int)
   case neg =>
    rw [if_neg c4] at H
    have c4b0:decide (x13_1 < (l1.length:Int)) = false:=decide_eq_false c4
    clear c4
    simp only [Option.some.injEq,Prod.mk.injEq] at H
    obtain ⟨rfl,rfl⟩:=H
    go_wp2
    go_ret2
    exact ⟨_,by first | rfl | (simp [errW_none,errW_some] <;> rfl) | (simp [*,errW_none,errW_some] <;> rfl),by (with_reducible repeat (first | apply Kd.R_alloc | apply Kd.R_drewN | apply Kd.R_drew));exact HO_6.out,by repeat (first | (with_reducible first | exact HB.out | apply below_alloc | apply pw_below_drewN | apply below_drew1 | refine below_set ?_ GE362.out) | exact HB.out)⟩
   rw [if_pos c4] at H
   have c4b0:decide (x13_1 < (l1.length:Int)) = true:=decide_eq_true c4
   clear c4
   by_cases c5:0 ≤ x13_1
   case neg =>
    rw [if_neg c5] at H
    exact absurd H (by simp)
   rw [if_pos c5] at H
   have c5b0:decide (0 ≤ x13_1) = true:=decide_eq_true c5
   clear c5
   by_cases c6:x13_1 < (l1.length:Int)
   case neg =>
    rw [if_neg c6] at H
    exact absurd H (by simp)
   rw [if_pos c6] at H
   have c6b0:decide (x13_1 < (l1.length:Int)) = true:=decide_eq_true c6
   clear c6
   replace H:=Option.bind_eq_some_iff.mp H
   obtain ⟨⟨t364,t365,t366⟩,A70,H⟩:=H
   replace H:(if t366 = true then (if ((rdOf ByteArray.empty l1 x13_1).size:Int) = a0_0 then (if (l1.length:Int) > 32 then (some (([]:List (S96)),false)) else (if x6_1.length < 8796093022208 then (card_function_cubes.l0 k1 l1 (x6_1 ++ [(⟨t364,t365⟩:S96)]) l1 (l1.length:Int) (wrap64 (x13_1 + 1)) a0_0 a0_1) else (none))) else (some (([]:List (S96)),false))) else (some (([]:List (S96)),false))) = some (r1,r2):=H
   have A7:=Aside0.mk A70
   clear A70
   by_cases c8:t366 = true
   case neg =>
    replace c8:=Bool.eq_false_iff.mpr c8
    subst c8
    have H1:(some (([]:List (S96)),false)) = some (r1,r2):=by rw [if_neg (show ¬ (false = true) by decide)] at H;exact H
    clear H
    have H:=H1
    clear H1
    simp only [Option.some.injEq,Prod.mk.injEq] at H
    obtain ⟨rfl,rfl⟩:=H
    have p363:0 ≤ (x13_1:Int):=of_decide_eq_true (by first | (with_reducible assumption) | assumption)
    have q363:x13_1 < (l1.length:Int):=of_decide_eq_true (by first | (with_reducible assumption) | assumption)
    obtain ⟨ad363,e363,hx363_0⟩:=Kd.at_string HR1.out x13_1 p363 q363
    cases e363
    replace hx363_0:=(HB.out.cell (World.block_lt_of_cell? w _ hx363_0)).trans hx363_0
    replace p363:=eq_true p363
    replace q363:=eq_true q363
    go_wp2_with (first | ((with_reducible refine gate_callee (f:=69) rfl ?_);refine goesL_ (some 19) rfl rfl Try.func69 (by kernel_rfl) rfl #[.string (rdOf ByteArray.empty l1 x13_1)] rfl (by (try simp only [List.map_toArray,List.map_cons,List.map_nil]);first | done | rfl | (simp only [List.length_drop,List.length_take];rfl)) ?_;(with_reducible refine (card_newCube.calls k1 (rdOf ByteArray.empty l1 x13_1) t364 t365 false _ A7.out).mono ?_);rintro e w28 ⟨rfl,hb⟩;refine ⟨_,rfl,?_⟩;have n0_:=Aside0.mk (Kd.R_below (by (with_reducible repeat (first | apply Kd.R_alloc | apply Kd.R_drewN | apply Kd.R_drew));exact HO_6.out) hb);have n1_:=Aside0.mk (blk_below (g:=gb362) (o:=.cells #[.int .i64 a0_0,.string a0_1] 81 (0,0)) (by (with_reducible repeat (first | refine blk_drewN ?_ _ | refine blk_drew ?_ | refine blk_alloc ?_ _));exact BK362.out) hb);have n2_:=Aside0.mk (below_step (by repeat (first | (with_reducible first | exact HB.out | apply below_alloc | apply pw_below_drewN | apply below_drew1 | refine below_set ?_ GE362.out) | exact HB.out)) hb);clear HO_6;clear BK362;clear HB;have HO_6:=n0_;have BK362:=n1_;have HB:=n2_;clear n0_ n1_ n2_;(try clear hb)) | ((with_reducible refine gate_dst (N:=9) rfl ?_);(try (refine gate_guard (by rfl) ?_;dsimp only));refine box_event ?hg (N:=9) ?hd (cs:=#[.int .i64 0,.int .i64 0]) (t:=96) ?hr ?_;(case hd=>rfl);(case hg=>rfl);(case hr=>first | (go_simp;done) | (go_simp;rfl));intro gb367 hg w29 hbox hb;have n0_:=Aside0.mk (Kd.R_below (Kd.R_elderB (by (with_reducible repeat (first | apply Kd.R_alloc | apply Kd.R_drewN | apply Kd.R_drew));exact HO_6.out) gb367 (Nat.le_of_eq hg.symm)) hb);have n1_:=Aside0.mk (blk_below (g:=gb362) (o:=.cells #[.int .i64 a0_0,.string a0_1] 81 (0,0)) (by (with_reducible repeat (first | refine blk_drewN ?_ _ | refine blk_drew ?_ | refine blk_alloc ?_ _));exact BK362.out) hb);have n2_:=Aside0.mk (below_step (by repeat (first | (with_reducible first | exact HB.out | apply below_alloc | apply pw_below_drewN | apply below_drew1 | refine below_set ?_ GE362.out) | exact HB.out)) hb);have n3_:=Aside0.mk (hbox);have n4_:=Aside0.mk ((by rw [hg];exact (below_size (by repeat (first | (with_reducible first | exact HB.out | apply below_alloc | apply pw_below_drewN | apply below_drew1 | refine below_set ?_ GE362.out) | exact HB.out))):w.heap.size ≤ gb367));have n5_:=Aside0.mk ((by rw [hg];exact (below_size (by repeat (first | (with_reducible first | exact HB.out | apply below_alloc | apply pw_below_drewN | apply below_drew1 | refine below_set ?_ GE362.out) | exact HB.out))):w.heap.size ≤ gb367));have n6_:=Aside0.mk ((by rw [hg];exact Nat.ne_of_lt (blk_lt (g:=gb362) (o:=.cells #[.int .i64 a0_0,.string a0_1] 81 (0,0)) (by (with_reducible repeat (first | refine blk_drewN ?_ _ | refine blk_drew ?_ | refine blk_alloc ?_ _));exact BK362.out)):gb362 ≠ gb367));have n7_:=Aside0.mk ((by rw [hg];exact Nat.ne_of_gt (blk_lt (g:=gb362) (o:=.cells #[.int .i64 a0_0,.string a0_1] 81 (0,0)) (by (with_reducible repeat (first | refine blk_drewN ?_ _ | refine blk_drew ?_ | refine blk_alloc ?_ _));exact BK362.out)):gb367 ≠ gb362));clear HO_6;clear BK362;clear HB;have HO_6:=n0_;have BK362:=n1_;have HB:=n2_;have BK367:=n3_;have GW367:=n4_;have GE367:=n5_;have NB362_367:=n6_;have NB367_362:=n7_;clear n0_ n1_ n2_ n3_ n4_ n5_ n6_ n7_;clear hb hbox hg;have hnb30:=NB367_362.out;have hnc30:=NB362_367.out;have hcz31_0:w29.cell? ⟨gb367,0,none⟩ = some (.int .i64 0):=(blk_cell BK367.out 0).trans rfl;have hcz31_1:w29.cell? ⟨gb367,1,none⟩ = some (.int .i64 0):=(blk_cell BK367.out 1).trans rfl;have hfz31_0:=blk_frozen BK367.out 0;have hfz31_1:=blk_frozen BK367.out 1))
    go_ret2
    exact ⟨_,by first | rfl | (simp [errW_none,errW_some] <;> rfl) | (simp [*,errW_none,errW_some] <;> rfl),by first | exact Kd.R_nil _ _ _ _ _ | exact Kd.N_nil _ _ _ _ _ | exact Kd.V_nil _ _ _ _ _ | exact Kd.Q_nil _ _ _ _ _ | exact Kd.S_nil _ _ _ _ _,by repeat (first | (with_reducible first | exact HB.out | apply below_alloc | apply pw_below_drewN | apply below_drew1 | refine below_set ?_ GE362.out | refine below_set ?_ GE367.out) | exact HB.out)⟩
   subst c8
   have H1:(if ((rdOf ByteArray.empty l1 x13_1).size:Int) = a0_0 then (if (l1.length:Int) > 32 then (some (([]:List (S96)),false)) else (if x6_1.length < 8796093022208 then (card_function_cubes.l0 k1 l1 (x6_1 ++ [(⟨t364,t365⟩:S96)]) l1 (l1.length:Int) (wrap64 (x13_1 + 1)) a0_0 a0_1) else (none))) else (some (([]:List (S96)),false))) = some (r1,r2):=by rw [if_pos rfl] at H;exact H
   clear H
   have H:=H1
   clear H1
   by_cases c9:((rdOf ByteArray.empty l1 x13_1).size:Int) = a0_0
   case neg =>
    rw [if_neg c9] at H
    have c9b0:(((rdOf ByteArray.empty l1 x13_1).size:Int) == a0_0) = false:=beq_eq_false_iff_ne.mpr c9
    have c9b1:(((rdOf ByteArray.empty l1 x13_1).size:Int) != a0_0) = true:=bne_iff_ne.mpr c9
    simp only [Option.some.injEq,Prod.mk.injEq] at H
    obtain ⟨rfl,rfl⟩:=H
    have p363:0 ≤ (x13_1:Int):=of_decide_eq_true (by first | (with_reducible assumption) | assumption)
    have q363:x13_1 < (l1.length:Int):=of_decide_eq_true (by first | (with_reducible assumption) | assumption)
    obtain ⟨ad363,e363,hx363_0⟩:=Kd.at_string HR1.out x13_1 p363 q363
    cases e363
    replace hx363_0:=(HB.out.cell (World.block_lt_of_cell? w _ hx363_0)).trans hx363_0
    replace p363:=eq_true p363
    replace q363:=eq_true q363
    go_wp2_with (first | ((with_reducible refine gate_callee (f:=69) rfl ?_);refine goesL_ (some 19) rfl rfl Try.func69 (by kernel_rfl) rfl #[.string (rdOf ByteArray.empty l1 x13_1)] rfl (by (try simp only [List.map_toArray,List.map_cons,List.map_nil]);first | done | rfl | (simp only [List.length_drop,List.length_take];rfl)) ?_;(with_reducible refine (card_newCube.calls k1 (rdOf ByteArray.empty l1 x13_1) t364 t365 true _ A7.out).mono ?_);rintro e w23 ⟨rfl,hb⟩;refine ⟨_,rfl,?_⟩;have n0_:=Aside0.mk (Kd.R_below (by (with_reducible repeat (first | apply Kd.R_alloc | apply Kd.R_drewN | apply Kd.R_drew));exact HO_6.out) hb);have n1_:=Aside0.mk (blk_below (g:=gb362) (o:=.cells #[.int .i64 a0_0,.string a0_1] 81 (0,0)) (by (with_reducible repeat (first | refine blk_drewN ?_ _ | refine blk_drew ?_ | refine blk_alloc ?_ _));exact BK362.out) hb);have n2_:=Aside0.mk (below_step (by repeat (first | (with_reducible first | exact HB.out | apply below_alloc | apply pw_below_drewN | apply below_drew1 | refine below_set ?_ GE362.out) | exact HB.out)) hb);clear HO_6;clear BK362;clear HB;have HO_6:=n0_;have BK362:=n1_;have HB:=n2_;clear n0_ n1_ n2_;(try clear hb)) | ((with_reducible refine gate_dst (N:=9) rfl ?_);(try (refine gate_guard (by rfl) ?_;dsimp only));refine box_event ?hg (N:=9) ?hd (cs:=#[.int .i64 0,.int .i64 0]) (t:=96) ?hr ?_;(case hd=>rfl);(case hg=>rfl);(case hr=>first | (go_simp;done) | (go_simp;rfl));intro gb367 hg w24 hbox hb;have n0_:=Aside0.mk (Kd.R_below (Kd.R_elderB (by (with_reducible repeat (first | apply Kd.R_alloc | apply Kd.R_drewN | apply Kd.R_drew));exact HO_6.out) gb367 (Nat.le_of_eq hg.symm)) hb);have n1_:=Aside0.mk (blk_below (g:=gb362) (o:=.cells #[.int .i64 a0_0,.string a0_1] 81 (0,0)) (by (with_reducible repeat (first | refine blk_drewN ?_ _ | refine blk_drew ?_ | refine blk_alloc ?_ _));exact BK362.out) hb);have n2_:=Aside0.mk (below_step (by repeat (first | (with_reducible first | exact HB.out | apply below_alloc | apply pw_below_drewN | apply below_drew1 | refine below_set ?_ GE362.out) | exact HB.out)) hb);have n3_:=Aside0.mk (hbox);have n4_:=Aside0.mk ((by rw [hg];exact (below_size (by repeat (first | (with_reducible first | exact HB.out | apply below_alloc | apply pw_below_drewN | apply below_drew1 | refine below_set ?_ GE362.out) | exact HB.out))):w.heap.size ≤ gb367));have n5_:=Aside0.mk ((by rw [hg];exact (below_size (by repeat (first | (with_reducible first | exact HB.out | apply below_alloc | apply pw_below_drewN | apply below_drew1 | refine below_set ?_ GE362.out) | exact HB.out))):w.heap.size ≤ gb367));have n6_:=Aside0.mk ((by rw [hg];exact Nat.ne_of_lt (blk_lt (g:=gb362) (o:=.cells #[.int .i64 a0_0,.string a0_1] 81 (0,0)) (by (with_reducible repeat (first | refine blk_drewN ?_ _ | refine blk_drew ?_ | refine blk_alloc ?_ _));exact BK362.out)):gb362 ≠ gb367));have n7_:=Aside0.mk ((by rw [hg];exact Nat.ne_of_gt (blk_lt (g:=gb362) (o:=.cells #[.int .i64 a0_0,.string a0_1] 81 (0,0)) (by (with_reducible repeat (first | refine blk_drewN ?_ _ | refine blk_drew ?_ | refine blk_alloc ?_ _));exact BK362.out)):gb367 ≠ gb362));clear HO_6;clear BK362;clear HB;have HO_6:=n0_;have BK362:=n1_;have HB:=n2_;have BK367:=n3_;have GW367:=n4_;have GE367:=n5_;have NB362_367:=n6_;have NB367_362:=n7_;clear n0_ n1_ n2_ n3_ n4_ n5_ n6_ n7_;clear hb hbox hg;have hnb25:=NB367_362.out;have hnc25:=NB362_367.out;have hcz26_0:w24.cell? ⟨gb367,0,none⟩ = some (.int .i64 0):=(blk_cell BK367.out 0).trans rfl;have hcz26_1:w24.cell? ⟨gb367,1,none⟩ = some (.int .i64 0):=(blk_cell BK367.out 1).trans rfl;have hfz26_0:=blk_frozen BK367.out 0;have hfz26_1:=blk_frozen BK367.out 1;have hcz27_0:w24.cell? ⟨gb362,0,none⟩ = some (.int .i64 a0_0):=(blk_cell BK362.out 0).trans rfl;have hcz27_1:w24.cell? ⟨gb362,1,none⟩ = some (.string a0_1):=(blk_cell BK362.out 1).trans rfl;have hfz27_0:=blk_frozen BK362.out 0;have hfz27_1:=blk_frozen BK362.out 1))
    go_ret2
    exact ⟨_,by first | rfl | (simp [errW_none,errW_some] <;> rfl) | (simp [*,errW_none,errW_some] <;> rfl),by first | exact Kd.R_nil _ _ _ _ _ | exact Kd.N_nil _ _ _ _ _ | exact Kd.V_nil _ _ _ _ _ | exact Kd.Q_nil _ _ _ _ _ | exact Kd.S_nil _ _ _ _ _,by repeat (first | (with_reducible first | exact HB.out | apply below_alloc | apply pw_below_drewN | apply below_drew1 | refine below_set ?_ GE362.out | refine below_set ?_ GE367.out) | exact HB.out)⟩
   rw [if_pos c9] at H
   have c9b0:(((rdOf ByteArray.empty l1 x13_1).size:Int) == a0_0) = true:=beq_iff_eq.mpr c9
   have c9b1:(((rdOf ByteArray.empty l1 x13_1).size:Int) != a0_0) = false:=bne_eq_false_iff_eq.mpr c9
   clear c9
   by_cases c10:(l1.length:Int) > 32
   ·rw [if_pos c10] at H
    have c10b0:decide (32 < (l1.length:Int)) = true:=decide_eq_true c10
    have c10b1:decide (32 < l1.length) = true:=decide_eq_true (by omega)
    clear c10
    simp only [Option.some.injEq,Prod.mk.injEq] at H
    obtain ⟨rfl,rfl⟩:=H
    have p363:0 ≤ (x13_1:Int):=of_decide_eq_true (by first | (with_reducible assumption) | assumption)
    have q363:x13_1 < (l1.length:Int):=of_decide_eq_true (by first | (with_reducible assumption) | assumption)
    obtain ⟨ad363,e363,hx363_0⟩:=Kd.at_string HR1.out x13_1 p363 q363
    cases e363
    replace hx363_0:=(HB.out.cell (World.block_lt_of_cell? w _ hx363_0)).trans hx363_0
    replace p363:=eq_true p363
    replace q363:=eq_true q363
    go_wp2_with (first | ((with_reducible refine gate_callee (f:=69) rfl ?_);refine goesL_ (some 19) rfl rfl Try.func69 (by kernel_rfl) rfl #[.string (rdOf ByteArray.empty l1 x13_1)] rfl (by (try simp only [List.map_toArray,List.map_cons,List.map_nil]);first | done | rfl | (simp only [List.length_drop,List.length_take];rfl)) ?_;(with_reducible refine (card_newCube.calls k1 (rdOf ByteArray.empty l1 x13_1) t364 t365 true _ A7.out).mono ?_);rintro e w11 ⟨rfl,hb⟩;refine ⟨_,rfl,?_⟩;have n0_:=Aside0.mk (Kd.R_below (by (with_reducible repeat (first | apply Kd.R_alloc | apply Kd.R_drewN | apply Kd.R_drew));exact HO_6.out) hb);have n1_:=Aside0.mk (blk_below (g:=gb362) (o:=.cells #[.int .i64 a0_0,.string a0_1] 81 (0,0)) (by (with_reducible repeat (first | refine blk_drewN ?_ _ | refine blk_drew ?_ | refine blk_alloc ?_ _));exact BK362.out) hb);have n2_:=Aside0.mk (below_step (by repeat (first | (with_reducible first | exact HB.out | apply below_alloc | apply pw_below_drewN | apply below_drew1 | refine below_set ?_ GE362.out) | exact HB.out)) hb);clear HO_6;clear BK362;clear HB;have HO_6:=n0_;have BK362:=n1_;have HB:=n2_;clear n0_ n1_ n2_;(try clear hb)) | ((with_reducible refine gate_dst (N:=9) rfl ?_);(try (refine gate_guard (by rfl) ?_;dsimp only));refine box_event ?hg (N:=9) ?hd (cs:=#[.int .i64 0,.int .i64 0]) (t:=96) ?hr ?_;(case hd=>rfl);(case hg=>rfl);(case hr=>first | (go_simp;done) | (go_simp;rfl));intro gb367 hg w12 hbox hb;have n0_:=Aside0.mk (Kd.R_below (Kd.R_elderB (by (with_reducible repeat (first | apply Kd.R_alloc | apply Kd.R_drewN | apply Kd.R_drew));exact HO_6.out) gb367 (Nat.le_of_eq hg.symm)) hb);have n1_:=Aside0.mk (blk_below (g:=gb362) (o:=.cells #[.int .i64 a0_0,.string a0_1] 81 (0,0)) (by (with_reducible repeat (first | refine blk_drewN ?_ _ | refine blk_drew ?_ | refine blk_alloc ?_ _));exact BK362.out) hb);have n2_:=Aside0.mk (below_step (by repeat (first | (with_reducible first | exact HB.out | apply below_alloc | apply pw_below_drewN | apply below_drew1 | refine below_set ?_ GE362.out) | exact HB.out)) hb);have n3_:=Aside0.mk (hbox);have n4_:=Aside0.mk ((by rw [hg];exact (below_size (by repeat (first | (with_reducible first | exact HB.out | apply below_alloc | apply pw_below_drewN | apply below_drew1 | refine below_set ?_ GE362.out) | exact HB.out))):w.heap.size ≤ gb367));have n5_:=Aside0.mk ((by rw [hg];exact (below_size (by repeat (first | (with_reducible first | exact HB.out | apply below_alloc | apply pw_below_drewN | apply below_drew1 | refine below_set ?_ GE362.out) | exact HB.out))):w.heap.size ≤ gb367));have n6_:=Aside0.mk ((by rw [hg];exact Nat.ne_of_lt (blk_lt (g:=gb362) (o:=.cells #[.int .i64 a0_0,.string a0_1] 81 (0,0)) (by (with_reducible repeat (first | refine blk_drewN ?_ _ | refine blk_drew ?_ | refine blk_alloc ?_ _));exact BK362.out)):gb362 ≠ gb367));have n7_:=Aside0.mk ((by rw [hg];exact Nat.ne_of_gt (blk_lt (g:=gb362) (o:=.cells #[.int .i64 a0_0,.string a0_1] 81 (0,0)) (by (with_reducible repeat (first | refine blk_drewN ?_ _ | refine blk_drew ?_ | refine blk_alloc ?_ _));exact BK362.out)):gb367 ≠ gb362));clear HO_6;clear BK362;clear HB;have HO_6:=n0_;have BK362:=n1_;have HB:=n2_;have BK367:=n3_;have GW367:=n4_;have GE367:=n5_;have NB362_367:=n6_;have NB367_362:=n7_;clear n0_ n1_ n2_ n3_ n4_ n5_ n6_ n7_;clear hb hbox hg;have hnb13:=NB367_362.out;have hnc13:=NB362_367.out;have hcz14_0:w12.cell? ⟨gb367,0,none⟩ = some (.int .i64 0):=(blk_cell BK367.out 0).trans rfl;have hcz14_1:w12.cell? ⟨gb367,1,none⟩ = some (.int .i64 0):=(blk_cell BK367.out 1).trans rfl;have hfz14_0:=blk_frozen BK367.out 0;have hfz14_1:=blk_frozen BK367.out 1;have hcz15_0:w12.cell? ⟨gb362,0,none⟩ = some (.int .i64 a0_0):=(blk_cell BK362.out 0).trans rfl;have hcz15_1:w12.cell? ⟨gb362,1,none⟩ = some (.string a0_1):=(blk_cell BK362.out 1).trans rfl;have hfz15_0:=blk_frozen BK362.out 0;have hfz15_1:=blk_frozen BK362.out 1))
    go_ret2
    exact ⟨_,by first | rfl | (simp [errW_none,errW_some] <;> rfl) | (simp [*,errW_none,errW_some] <;> rfl),by first | exact Kd.R_nil _ _ _ _ _ | exact Kd.N_nil _ _ _ _ _ | exact Kd.V_nil _ _ _ _ _ | exact Kd.Q_nil _ _ _ _ _ | exact Kd.S_nil _ _ _ _ _,by repeat (first | (with_reducible first | exact HB.out | apply below_alloc | apply pw_below_drewN | apply below_drew1 | refine below_set ?_ GE362.out | refine below_set ?_ GE367.out) | exact HB.out)⟩
   rw [if_neg c10] at H
   have c10b0:decide (32 < (l1.length:Int)) = false:=decide_eq_false c10
   have c10b1:decide (32 < l1.length) = false:=decide_eq_false (by omega)
   clear c10
   by_cases c16:x6_1.length < 8796093022208
   case neg =>
    rw [if_neg c16] at H
    exact absurd H (by simp)
   rw [if_pos c16] at H
   have LMc16:=Aside0.mk c16
   clear c16
   obtain ⟨y368,hy368⟩:∃ y_:List (S96),y_ = (x6_1 ++ [(⟨t364,t365⟩:S96)]):=⟨_,rfl⟩
   replace H:(card_function_cubes.l0 k1 l1 y368 l1 (l1.length:Int) (wrap64 (x13_1 + 1)) a0_0 a0_1) = some (r1,r2):=by first | (rw [hy368];with_reducible exact H) | (have H2_:=(Option.bind_some _ _).symm.trans H;rw [hy368];with_reducible exact H2_) | (have H2_:=(Option.bind_some _ _).symm.trans H;with_reducible exact H2_) | with_reducible exact H | (rw [hy368];exact H) | exact H
   have Ny368:=Aside0.mk hy368
   clear hy368
   have H':=Aside0.mk H
   clear H
   have p363:0 ≤ (x13_1:Int):=of_decide_eq_true (by first | (with_reducible assumption) | assumption)
   have q363:x13_1 < (l1.length:Int):=of_decide_eq_true (by first | (with_reducible assumption) | assumption)
   obtain ⟨ad363,e363,hx363_0⟩:=Kd.at_string HR1.out x13_1 p363 q363
   cases e363
   replace hx363_0:=(HB.out.cell (World.block_lt_of_cell? w _ hx363_0)).trans hx363_0
   replace p363:=eq_true p363
   replace q363:=eq_true q363
   go_wp2_with (first | ((with_reducible refine gate_callee (f:=69) rfl ?_);refine goesL_ (some 19) rfl rfl Try.func69 (by kernel_rfl) rfl #[.string (rdOf ByteArray.empty l1 x13_1)] rfl (by (try simp only [List.map_toArray,List.map_cons,List.map_nil]);first | done | rfl | (simp only [List.length_drop,List.length_take];rfl)) ?_;(with_reducible refine (card_newCube.calls k1 (rdOf ByteArray.empty l1 x13_1) t364 t365 true _ A7.out).mono ?_);rintro e w17 ⟨rfl,hb⟩;refine ⟨_,rfl,?_⟩;have n0_:=Aside0.mk (Kd.R_below (by (with_reducible repeat (first | apply Kd.R_alloc | apply Kd.R_drewN | apply Kd.R_drew));exact HO_6.out) hb);have n1_:=Aside0.mk (blk_below (g:=gb362) (o:=.cells #[.int .i64 a0_0,.string a0_1] 81 (0,0)) (by (with_reducible repeat (first | refine blk_drewN ?_ _ | refine blk_drew ?_ | refine blk_alloc ?_ _));exact BK362.out) hb);have n2_:=Aside0.mk (below_step (by repeat (first | (with_reducible first | exact HB.out | apply below_alloc | apply pw_below_drewN | apply below_drew1 | refine below_set ?_ GE362.out) | exact HB.out)) hb);clear HO_6;clear BK362;clear HB;have HO_6:=n0_;have BK362:=n1_;have HB:=n2_;clear n0_ n1_ n2_;(try clear hb)) | ((with_reducible refine gate_dst (N:=9) rfl ?_);(try (refine gate_guard (by rfl) ?_;dsimp only));refine box_event ?hg (N:=9) ?hd (cs:=#[.int .i64 0,.int .i64 0]) (t:=96) ?hr ?_;(case hd=>rfl);(case hg=>rfl);(case hr=>first | (go_simp;done) | (go_simp;rfl));intro gb367 hg w18 hbox hb;have n0_:=Aside0.mk (Kd.R_below (Kd.R_elderB (by (with_reducible repeat (first | apply Kd.R_alloc | apply Kd.R_drewN | apply Kd.R_drew));exact HO_6.out) gb367 (Nat.le_of_eq hg.symm)) hb);have n1_:=Aside0.mk (blk_below (g:=gb362) (o:=.cells #[.int .i64 a0_0,.string a0_1] 81 (0,0)) (by (with_reducible repeat (first | refine blk_drewN ?_ _ | refine blk_drew ?_ | refine blk_alloc ?_ _));exact BK362.out) hb);have n2_:=Aside0.mk (below_step (by repeat (first | (with_reducible first | exact HB.out | apply below_alloc | apply pw_below_drewN | apply below_drew1 | refine below_set ?_ GE362.out) | exact HB.out)) hb);have n3_:=Aside0.mk (hbox);have n4_:=Aside0.mk ((by rw [hg];exact (below_size (by repeat (first | (with_reducible first | exact HB.out | apply below_alloc | apply pw_below_drewN | apply below_drew1 | refine below_set ?_ GE362.out) | exact HB.out))):w.heap.size ≤ gb367));have n5_:=Aside0.mk ((by rw [hg];exact (below_size (by repeat (first | (with_reducible first | exact HB.out | apply below_alloc | apply pw_below_drewN | apply below_drew1 | refine below_set ?_ GE362.out) | exact HB.out))):w.heap.size ≤ gb367));have n6_:=Aside0.mk ((by rw [hg];exact Nat.ne_of_lt (blk_lt (g:=gb362) (o:=.cells #[.int .i64 a0_0,.string a0_1] 81 (0,0)) (by (with_reducible repeat (first | refine blk_drewN ?_ _ | refine blk_drew ?_ | refine blk_alloc ?_ _));exact BK362.out)):gb362 ≠ gb367));have n7_:=Aside0.mk ((by rw [hg];exact Nat.ne_of_gt (blk_lt (g:=gb362) (o:=.cells #[.int .i64 a0_0,.string a0_1] 81 (0,0)) (by (with_reducible repeat (first | refine blk_drewN ?_ _ | refine blk_drew ?_ | refine blk_alloc ?_ _));exact BK362.out)):gb367 ≠ gb362));clear HO_6;clear BK362;clear HB;have HO_6:=n0_;have BK362:=n1_;have HB:=n2_;have BK367:=n3_;have GW367:=n4_;have GE367:=n5_;have NB362_367:=n6_;have NB367_362:=n7_;clear n0_ n1_ n2_ n3_ n4_ n5_ n6_ n7_;clear hb hbox hg;have hnb19:=NB367_362.out;have hnc19:=NB362_367.out;have hcz20_0:w18.cell? ⟨gb367,0,none⟩ = some (.int .i64 0):=(blk_cell BK367.out 0).trans rfl;have hcz20_1:w18.cell? ⟨gb367,1,none⟩ = some (.int .i64 0):=(blk_cell BK367.out 1).trans rfl;have hfz20_0:=blk_frozen BK367.out 0;have hfz20_1:=blk_frozen BK367.out 1;have hcz21_0:w18.cell? ⟨gb362,0,none⟩ = some (.int .i64 a0_0):=(blk_cell BK362.out 0).trans rfl;have hcz21_1:w18.cell? ⟨gb362,1,none⟩ = some (.string a0_1):=(blk_cell BK362.out 1).trans rfl;have hfz21_0:=blk_frozen BK362.out 0;have hfz21_1:=blk_frozen BK362.out 1) | ((with_reducible refine gate_builtin (b:=.append) (xs:=#[.tmp 36,.tmp 38]) rfl ?_);(try (refine gate_guard (by rfl) ?_;dsimp only));at_builtin;refine Kd.R_append k96 (w0:=w) w.heap.size rfl (.tmp 36) (.tmp 38) 93 96 (.agg #[(.int .i64 0),(.int .i64 0)]) 16 rfl Try.underlying93 info96 rfl (by decide) (by omega) u6 x6_1 (⟨t364,t365⟩:S96) [.int .i64 t364,.int .i64 t365] (fun k_=>k_ ≠ gb367) (fun _=>False) rfl (by first | (go_simp;done) | (go_simp;rfl)) ?aP (fun _ hk=>hk.elim) ?aF ?aO ?aB ?aS ?aL ?_;(case aP=>exact k96_mkM _ _ _ (⟨t364,t365⟩:S96));(case aB=>exact (by repeat (first | (with_reducible first | exact HB.out | apply below_alloc | apply pw_below_drewN | apply below_drew1 | refine below_set ?_ GE362.out | refine below_set ?_ GE367.out) | exact HB.out)));(case aF=>exact (fun k_ hk=>Kd.freshB (g:=gb367) (o:=.cells #[.int .i64 t364,.int .i64 t365] 96 (0,0)) (by (with_reducible repeat (first | refine blk_drewN ?_ _ | refine blk_drew ?_ | refine blk_alloc ?_ _));refine blk_put (cs:=#[.int .i64 t364,.int .i64 0]) ?_ 1 _ rfl;(with_reducible repeat (first | refine blk_drewN ?_ _ | refine blk_drew ?_ | refine blk_alloc ?_ _));refine blk_put (cs:=#[.int .i64 0,.int .i64 0]) ?_ 0 _ rfl;(with_reducible repeat (first | refine blk_drewN ?_ _ | refine blk_drew ?_ | refine blk_alloc ?_ _));exact BK367.out) k_ hk));(case aO=>exact (by (with_reducible repeat (first | apply Kd.R_alloc | apply Kd.R_drewN | apply Kd.R_drew));exact Kd.R_mono (Kd.R_far (p:=⟨gb367,1,none⟩) (Kd.R_far (p:=⟨gb367,0,none⟩) (Kd.R_mono HO_6.out (fun k_ hk=>(⟨hk,hk.2⟩:_ ∧ k_ ≠ gb367))) (fun _ hk=>hk.2) (.int .i64 t364)) (fun _ hk=>hk.2) (.int .i64 t365)) (fun _ hk=>hk.1.2)));(case aS=>exact (below_size (by repeat (first | (with_reducible first | exact HB.out | apply below_alloc | apply pw_below_drewN | apply below_drew1 | refine below_set ?_ GE362.out | refine below_set ?_ GE367.out) | exact HB.out))));(case aL=>have:=LMc16.out;omega);intro v369 w22 ho hb hg hat;rw [← Ny368.out] at ho;have n0_:=Aside0.mk (blk_grown (g:=gb362) (o:=.cells #[.int .i64 a0_0,.string a0_1] 81 (0,0)) (by (with_reducible repeat (first | refine blk_drewN ?_ _ | refine blk_drew ?_ | refine blk_alloc ?_ _));refine blk_far ?_ NB362_367.out _;(with_reducible repeat (first | refine blk_drewN ?_ _ | refine blk_drew ?_ | refine blk_alloc ?_ _));refine blk_far ?_ NB362_367.out _;(with_reducible repeat (first | refine blk_drewN ?_ _ | refine blk_drew ?_ | refine blk_alloc ?_ _));exact BK362.out) hg (Kd.R_ne HO_6.out BK362.out (by decide)));have n1_:=Aside0.mk (blk_grown (g:=gb367) (o:=.cells #[.int .i64 t364,.int .i64 t365] 96 (0,0)) (by (with_reducible repeat (first | refine blk_drewN ?_ _ | refine blk_drew ?_ | refine blk_alloc ?_ _));refine blk_put (cs:=#[.int .i64 t364,.int .i64 0]) ?_ 1 _ rfl;(with_reducible repeat (first | refine blk_drewN ?_ _ | refine blk_drew ?_ | refine blk_alloc ?_ _));refine blk_put (cs:=#[.int .i64 0,.int .i64 0]) ?_ 0 _ rfl;(with_reducible repeat (first | refine blk_drewN ?_ _ | refine blk_drew ?_ | refine blk_alloc ?_ _));exact BK367.out) hg (Kd.R_away HO_6.out (fun _ hk=>hk.2)));have n2_:=Aside0.mk (hb);have n3_:=Aside0.mk (ho);clear BK362;clear BK367;clear HB;clear HO_6;have BK362:=n0_;have BK367:=n1_;have HB:=n2_;have HO370:=n3_;clear n0_ n1_ n2_ n3_;clear ho hb hg hat))
   go_roundg k1
   case measure=>have:=HK1.out;omega
   case rel=>exact ⟨(y368),(wrap64 (x13_1 + 1)),(by first | rfl | (simp;done) | (simp [*];done)),H',⟨by have:=HK1.out;omega⟩,⟨by (with_reducible repeat (first | apply Kd.R_alloc | apply Kd.R_drewN | apply Kd.R_drew));exact Kd.R_mono HO370.out (fun _ hk=>trivial)⟩,⟨by (with_reducible repeat (first | refine blk_drewN ?_ _ | refine blk_drew ?_ | refine blk_alloc ?_ _));exact BK362.out⟩,⟨by repeat (first | (with_reducible first | exact HB.out | apply below_alloc | apply pw_below_drewN | apply below_drew1 | refine below_set ?_ GE362.out | refine below_set ?_ GE367.out) | exact HB.out)⟩⟩
def card_Check.f (k:Nat) (a0:ByteArray) (l1:List ByteArray):Option (Int):=(card_newFunction.f a0).bind fun bt371=>(if bt371.2.2 = true then ((card_function_cubes.f k bt371.1 bt371.2.1 l1).bind fun bt375=>(if bt375.2 = true then ((card_function_isCover.f bt371.1 bt371.2.1 bt375.1).bind fun t379=>(if t379 = true then (some 0) else (some 10))) else (some 2))) else (some 2))
theorem card_Check.mono:∀ a0 a1 k,LeO (card_Check.f k a0 a1) (card_Check.f (k + 1) a0 a1):=by
 intro a0 a1 k
 unfold card_Check.f
 repeat' first
   | (with_reducible exact card_function_cubes.mono _ _ _ _)
   | (with_reducible exact LeO.refl _)
   | (with_reducible exact LeO.none _)
   | (with_reducible refine LeO.ite ?_ ?_)
   | (with_reducible refine LeO.bind ?_ (fun _=>?_))
   | exact card_function_cubes.mono _ _ _ _
   | exact LeO.none _
   | refine LeO.ite ?_ ?_
   | refine LeO.bind ?_ (fun _=>?_)
theorem card_Check.calls (k:Nat) (a0:ByteArray) (A1:Option Addr) (c1:Nat) (l1:List ByteArray) (r:Int) (w:World) (hr1:Kd.C Kd.string w A1 l1.length l1) (hc1:l1.length ≤ c1) (h:card_Check.f k a0 l1 = some r) :
  Calls Try.prog 43 #[.string a0,.slice A1 l1.length c1] w fun e w'=>e = .returned (.int .i64 r) ∧ Below w.heap.size w w':=by
 have hu81:=Try.underlying81
 have HR1:=Aside0.mk hr1
 have HC1:=Aside0.mk hc1
 clear hr1 hc1
 have HB:=Aside0.mk (Below.refl w.heap.size w)
 have H:((card_newFunction.f a0).bind fun bt371=>(if bt371.2.2 = true then ((card_function_cubes.f k bt371.1 bt371.2.1 l1).bind fun bt375=>(if bt375.2 = true then ((card_function_isCover.f bt371.1 bt371.2.1 bt375.1).bind fun t379=>(if t379 = true then (some 0) else (some 10))) else (some 2))) else (some 2))) = some r:=h
 clear h
 replace H:=Option.bind_eq_some_iff.mp H
 obtain ⟨⟨t371,t372,t373⟩,A30,H⟩:=H
 replace H:(if t373 = true then ((card_function_cubes.f k t371 t372 l1).bind fun bt375=>(if bt375.2 = true then ((card_function_isCover.f t371 t372 bt375.1).bind fun t379=>(if t379 = true then (some 0) else (some 10))) else (some 2))) else (some 2)) = some r:=H
 have A3:=Aside0.mk A30
 clear A30
 by_cases c4:t373 = true
 case neg =>
  replace c4:=Bool.eq_false_iff.mpr c4
  subst c4
  have H1:(some 2) = some r:=by rw [if_neg (show ¬ (false = true) by decide)] at H;exact H
  clear H
  have H:=H1
  clear H1
  obtain rfl:=Option.some.inj H
  go_enter Try.func43,Try.ntmps43
  go_wp2_with (first | ((with_reducible refine gate_callee (f:=65) rfl ?_);refine goesL_ (some 10) rfl rfl Try.func65 (by kernel_rfl) rfl #[.string a0] rfl (by (try simp only [List.map_toArray,List.map_cons,List.map_nil]);first | done | rfl | (simp only [List.length_drop,List.length_take];rfl)) ?_;(with_reducible refine (card_newFunction.calls a0 t371 t372 false _ A3.out).mono ?_);rintro e w27 ⟨rfl,hb⟩;refine ⟨_,rfl,?_⟩;have n0_:=Aside0.mk (below_step (by repeat (first | (with_reducible first | exact HB.out | apply below_alloc | apply pw_below_drewN | apply below_drew1) | exact HB.out)) hb);clear HB;have HB:=n0_;clear n0_;(try clear hb)) | ((with_reducible refine gate_dst (N:=5) rfl ?_);refine box_event ?hg (N:=5) ?hd (cs:=#[.int .i64 0,.string (⟨#[]⟩:ByteArray)]) (t:=81) ?hr ?_;(case hd=>rfl);(case hg=>rfl);(case hr=>first | (go_simp;done) | (go_simp;rfl));intro gb374 hg w28 hbox hb;have n0_:=Aside0.mk (below_step (by repeat (first | (with_reducible first | exact HB.out | apply below_alloc | apply pw_below_drewN | apply below_drew1) | exact HB.out)) hb);have n1_:=Aside0.mk (hbox);have n2_:=Aside0.mk ((by rw [hg];exact (below_size (by repeat (first | (with_reducible first | exact HB.out | apply below_alloc | apply pw_below_drewN | apply below_drew1) | exact HB.out))):w.heap.size ≤ gb374));have n3_:=Aside0.mk ((by rw [hg];exact (below_size (by repeat (first | (with_reducible first | exact HB.out | apply below_alloc | apply pw_below_drewN | apply below_drew1) | exact HB.out))):w.heap.size ≤ gb374));clear HB;have HB:=n0_;have BK374:=n1_;have GW374:=n2_;have GE374:=n3_;clear n0_ n1_ n2_ n3_;clear hb hbox hg;have hcz29_0:w28.cell? ⟨gb374,0,none⟩ = some (.int .i64 0):=(blk_cell BK374.out 0).trans rfl;have hcz29_1:w28.cell? ⟨gb374,1,none⟩ = some (.string (⟨#[]⟩:ByteArray)):=(blk_cell BK374.out 1).trans rfl;have hfz29_0:=blk_frozen BK374.out 0;have hfz29_1:=blk_frozen BK374.out 1))
  go_ret
  exact ⟨by first | rfl | (simp [errW_none,errW_some] <;> rfl) | (simp [*,errW_none,errW_some] <;> rfl),by repeat (first | (with_reducible first | exact HB.out | apply below_alloc | apply pw_below_drewN | apply below_drew1 | refine below_set ?_ GE374.out) | exact HB.out)⟩
 subst c4
 have H1:((card_function_cubes.f k t371 t372 l1).bind fun bt375=>(if bt375.2 = true then ((card_function_isCover.f t371 t372 bt375.1).bind fun t379=>(if t379 = true then (some 0) else (some 10))) else (some 2))) = some r:=by rw [if_pos rfl] at H;exact H
 clear H
 have H:=H1
 clear H1
 replace H:=Option.bind_eq_some_iff.mp H
 obtain ⟨⟨t375,t378⟩,A50,H⟩:=H
 replace H:(if t378 = true then ((card_function_isCover.f t371 t372 t375).bind fun t379=>(if t379 = true then (some 0) else (some 10))) else (some 2)) = some r:=H
 have A5:=Aside0.mk A50
 clear A50
 by_cases c6:t378 = true
 case neg =>
  replace c6:=Bool.eq_false_iff.mpr c6
  subst c6
  have H1:(some 2) = some r:=by rw [if_neg (show ¬ (false = true) by decide)] at H;exact H
  clear H
  have H:=H1
  clear H1
  obtain rfl:=Option.some.inj H
  go_enter Try.func43,Try.ntmps43
  go_wp2_with (first | ((with_reducible refine gate_callee (f:=65) rfl ?_);refine goesL_ (some 10) rfl rfl Try.func65 (by kernel_rfl) rfl #[.string a0] rfl (by (try simp only [List.map_toArray,List.map_cons,List.map_nil]);first | done | rfl | (simp only [List.length_drop,List.length_take];rfl)) ?_;(with_reducible refine (card_newFunction.calls a0 t371 t372 true _ A3.out).mono ?_);rintro e w23 ⟨rfl,hb⟩;refine ⟨_,rfl,?_⟩;have n0_:=Aside0.mk (below_step (by repeat (first | (with_reducible first | exact HB.out | apply below_alloc | apply pw_below_drewN | apply below_drew1) | exact HB.out)) hb);clear HB;have HB:=n0_;clear n0_;(try clear hb)) | ((with_reducible refine gate_dst (N:=5) rfl ?_);refine box_event ?hg (N:=5) ?hd (cs:=#[.int .i64 0,.string (⟨#[]⟩:ByteArray)]) (t:=81) ?hr ?_;(case hd=>rfl);(case hg=>rfl);(case hr=>first | (go_simp;done) | (go_simp;rfl));intro gb374 hg w24 hbox hb;have n0_:=Aside0.mk (below_step (by repeat (first | (with_reducible first | exact HB.out | apply below_alloc | apply pw_below_drewN | apply below_drew1) | exact HB.out)) hb);have n1_:=Aside0.mk (hbox);have n2_:=Aside0.mk ((by rw [hg];exact (below_size (by repeat (first | (with_reducible first | exact HB.out | apply below_alloc | apply pw_below_drewN | apply below_drew1) | exact HB.out))):w.heap.size ≤ gb374));have n3_:=Aside0.mk ((by rw [hg];exact (below_size (by repeat (first | (with_reducible first | exact HB.out | apply below_alloc | apply pw_below_drewN | apply below_drew1) | exact HB.out))):w.heap.size ≤ gb374));clear HB;have HB:=n0_;have BK374:=n1_;have GW374:=n2_;have GE374:=n3_;clear n0_ n1_ n2_ n3_;clear hb hbox hg;have hcz25_0:w24.cell? ⟨gb374,0,none⟩ = some (.int .i64 0):=(blk_cell BK374.out 0).trans rfl;have hcz25_1:w24.cell? ⟨gb374,1,none⟩ = some (.string (⟨#[]⟩:ByteArray)):=(blk_cell BK374.out 1).trans rfl;have hfz25_0:=blk_frozen BK374.out 0;have hfz25_1:=blk_frozen BK374.out 1) | ((with_reducible refine gate_callee (f:=77) rfl ?_);refine goesL_ (some 18) rfl rfl Try.func77 (by kernel_rfl) rfl #[.agg #[.int .i64 t371,.string t372],.slice A1 l1.length c1] rfl (by (try simp only [List.map_toArray,List.map_cons,List.map_nil]);first | done | rfl | (simp only [List.length_drop,List.length_take];rfl)) ?_;(with_reducible refine (card_function_cubes.calls k t371 t372 _ _ l1 t375 false _ ?side1 ?side2 A5.out).mono ?_);(case side1=>exact Kd.C_below HR1.out (by repeat (first | (with_reducible first | exact HB.out | apply below_alloc | apply pw_below_drewN | apply below_drew1 | refine below_set ?_ GE374.out) | exact HB.out)));(case side2=>exact HC1.out);rintro e w26 ⟨v376,rfl,ho0,hb⟩;refine ⟨_,rfl,?_⟩;have n0_:=Aside0.mk (Kd.R_lower ho0 (below_size (by repeat (first | (with_reducible first | exact HB.out | apply below_alloc | apply pw_below_drewN | apply below_drew1 | refine below_set ?_ GE374.out) | exact HB.out))));have n1_:=Aside0.mk (blk_below (g:=gb374) (o:=.cells #[.int .i64 t371,.string t372] 81 (0,0)) (by (with_reducible repeat (first | refine blk_drewN ?_ _ | refine blk_drew ?_ | refine blk_alloc ?_ _));refine blk_put (cs:=#[.int .i64 t371,.string (⟨#[]⟩:ByteArray)]) ?_ 1 _ rfl;(with_reducible repeat (first | refine blk_drewN ?_ _ | refine blk_drew ?_ | refine blk_alloc ?_ _));refine blk_put (cs:=#[.int .i64 0,.string (⟨#[]⟩:ByteArray)]) ?_ 0 _ rfl;(with_reducible repeat (first | refine blk_drewN ?_ _ | refine blk_drew ?_ | refine blk_alloc ?_ _));exact BK374.out) hb);have n2_:=Aside0.mk (below_step (by repeat (first | (with_reducible first | exact HB.out | apply below_alloc | apply pw_below_drewN | apply below_drew1 | refine below_set ?_ GE374.out) | exact HB.out)) hb);clear BK374;clear HB;have HO377:=n0_;have BK374:=n1_;have HB:=n2_;clear n0_ n1_ n2_;(try clear hb);(try clear ho0)))
  go_ret
  exact ⟨by first | rfl | (simp [errW_none,errW_some] <;> rfl) | (simp [*,errW_none,errW_some] <;> rfl),by repeat (first | (with_reducible first | exact HB.out | apply below_alloc | apply pw_below_drewN | apply below_drew1 | refine below_set ?_ GE374.out) | exact HB.out)⟩
 subst c6
 have H1:((card_function_isCover.f t371 t372 t375).bind fun t379=>(if t379 = true then (some 0) else (some 10))) = some r:=by rw [if_pos rfl] at H;exact H
 clear H
 have H:=H1
 clear H1
 replace H:=Option.bind_eq_some_iff.mp H
 obtain ⟨t379,A70,H⟩:=H
 replace H:(if t379 = true then (some 0) else (some 10)) = some r:=H
 have A7:=Aside0.mk A70
 clear A70
 by_cases c8:t379 = true
 ·subst c8
  have H1:(some 0) = some r:=by rw [if_pos rfl] at H;exact H
  clear H
  have H:=H1
  clear H1
  obtain rfl:=Option.some.inj H
  go_enter Try.func43,Try.ntmps43
  go_wp2_with (first | ((with_reducible refine gate_callee (f:=65) rfl ?_);refine goesL_ (some 10) rfl rfl Try.func65 (by kernel_rfl) rfl #[.string a0] rfl (by (try simp only [List.map_toArray,List.map_cons,List.map_nil]);first | done | rfl | (simp only [List.length_drop,List.length_take];rfl)) ?_;(with_reducible refine (card_newFunction.calls a0 t371 t372 true _ A3.out).mono ?_);rintro e w9 ⟨rfl,hb⟩;refine ⟨_,rfl,?_⟩;have n0_:=Aside0.mk (below_step (by repeat (first | (with_reducible first | exact HB.out | apply below_alloc | apply pw_below_drewN | apply below_drew1) | exact HB.out)) hb);clear HB;have HB:=n0_;clear n0_;(try clear hb)) | ((with_reducible refine gate_dst (N:=5) rfl ?_);refine box_event ?hg (N:=5) ?hd (cs:=#[.int .i64 0,.string (⟨#[]⟩:ByteArray)]) (t:=81) ?hr ?_;(case hd=>rfl);(case hg=>rfl);(case hr=>first | (go_simp;done) | (go_simp;rfl));intro gb374 hg w10 hbox hb;have n0_:=Aside0.mk (below_step (by repeat (first | (with_reducible first | exact HB.out | apply below_alloc | apply pw_below_drewN | apply below_drew1) | exact HB.out)) hb);have n1_:=Aside0.mk (hbox);have n2_:=Aside0.mk ((by rw [hg];exact (below_size (by repeat (first | (with_reducible first | exact HB.out | apply below_alloc | apply pw_below_drewN | apply below_drew1) | exact HB.out))):w.heap.size ≤ gb374));have n3_:=Aside0.mk ((by rw [hg];exact (below_size (by repeat (first | (with_reducible first | exact HB.out | apply below_alloc | apply pw_below_drewN | apply below_drew1) | exact HB.out))):w.heap.size ≤ gb374));clear HB;have HB:=n0_;have BK374:=n1_;have GW374:=n2_;have GE374:=n3_;clear n0_ n1_ n2_ n3_;clear hb hbox hg;have hcz11_0:w10.cell? ⟨gb374,0,none⟩ = some (.int .i64 0):=(blk_cell BK374.out 0).trans rfl;have hcz11_1:w10.cell? ⟨gb374,1,none⟩ = some (.string (⟨#[]⟩:ByteArray)):=(blk_cell BK374.out 1).trans rfl;have hfz11_0:=blk_frozen BK374.out 0;have hfz11_1:=blk_frozen BK374.out 1) | ((with_reducible refine gate_callee (f:=77) rfl ?_);refine goesL_ (some 18) rfl rfl Try.func77 (by kernel_rfl) rfl #[.agg #[.int .i64 t371,.string t372],.slice A1 l1.length c1] rfl (by (try simp only [List.map_toArray,List.map_cons,List.map_nil]);first | done | rfl | (simp only [List.length_drop,List.length_take];rfl)) ?_;(with_reducible refine (card_function_cubes.calls k t371 t372 _ _ l1 t375 true _ ?side1 ?side2 A5.out).mono ?_);(case side1=>exact Kd.C_below HR1.out (by repeat (first | (with_reducible first | exact HB.out | apply below_alloc | apply pw_below_drewN | apply below_drew1 | refine below_set ?_ GE374.out) | exact HB.out)));(case side2=>exact HC1.out);rintro e w12 ⟨v376,rfl,ho0,hb⟩;refine ⟨_,rfl,?_⟩;have n0_:=Aside0.mk (Kd.R_lower ho0 (below_size (by repeat (first | (with_reducible first | exact HB.out | apply below_alloc | apply pw_below_drewN | apply below_drew1 | refine below_set ?_ GE374.out) | exact HB.out))));have n1_:=Aside0.mk (blk_below (g:=gb374) (o:=.cells #[.int .i64 t371,.string t372] 81 (0,0)) (by (with_reducible repeat (first | refine blk_drewN ?_ _ | refine blk_drew ?_ | refine blk_alloc ?_ _));refine blk_put (cs:=#[.int .i64 t371,.string (⟨#[]⟩:ByteArray)]) ?_ 1 _ rfl;(with_reducible repeat (first | refine blk_drewN ?_ _ | refine blk_drew ?_ | refine blk_alloc ?_ _));refine blk_put (cs:=#[.int .i64 0,.string (⟨#[]⟩:ByteArray)]) ?_ 0 _ rfl;(with_reducible repeat (first | refine blk_drewN ?_ _ | refine blk_drew ?_ | refine blk_alloc ?_ _));exact BK374.out) hb);have n2_:=Aside0.mk (below_step (by repeat (first | (with_reducible first | exact HB.out | apply below_alloc | apply pw_below_drewN | apply below_drew1 | refine below_set ?_ GE374.out) | exact HB.out)) hb);clear BK374;clear HB;have HO377:=n0_;have BK374:=n1_;have HB:=n2_;clear n0_ n1_ n2_;(try clear hb);(try clear ho0);have hcz13_0:w12.cell? ⟨gb374,0,none⟩ = some (.int .i64 t371):=(blk_cell BK374.out 0).trans rfl;have hcz13_1:w12.cell? ⟨gb374,1,none⟩ = some (.string t372):=(blk_cell BK374.out 1).trans rfl;have hfz13_0:=blk_frozen BK374.out 0;have hfz13_1:=blk_frozen BK374.out 1;obtain ⟨Ao14,co14,eo14⟩:=Kd.R_slice HO377.out;subst eo14) | ((with_reducible refine gate_callee (f:=78) rfl ?_);refine goesL_ (some 27) rfl rfl Try.func78 (by kernel_rfl) rfl #[.agg #[.int .i64 t371,.string t372],.slice Ao14 t375.length co14] rfl (by (try simp only [List.map_toArray,List.map_cons,List.map_nil]);first | done | rfl | (simp only [List.length_drop,List.length_take];rfl)) ?_;(with_reducible refine (card_function_isCover.calls t371 t372 _ _ t375 true _ ?side1 ?side2 A7.out).mono ?_);(case side1=>repeat (first | exact (Kd.R_reads' HO377.out).2.2 | (with_reducible refine Kd.C_alloc ?_ _) | (with_reducible refine Kd.C_drewN ?_ _) | (with_reducible refine Kd.C_drew ?_)));(case side2=>exact (Kd.R_reads' HO377.out).2.1);rintro e w15 ⟨rfl,hb⟩;refine ⟨_,rfl,?_⟩;have n0_:=Aside0.mk (Kd.R_below (by (with_reducible repeat (first | apply Kd.R_alloc | apply Kd.R_drewN | apply Kd.R_drew));exact HO377.out) hb);have n1_:=Aside0.mk (blk_below (g:=gb374) (o:=.cells #[.int .i64 t371,.string t372] 81 (0,0)) (by (with_reducible repeat (first | refine blk_drewN ?_ _ | refine blk_drew ?_ | refine blk_alloc ?_ _));exact BK374.out) hb);have n2_:=Aside0.mk (below_step (by repeat (first | (with_reducible first | exact HB.out | apply below_alloc | apply pw_below_drewN | apply below_drew1 | refine below_set ?_ GE374.out) | exact HB.out)) hb);clear HO377;clear BK374;clear HB;have HO377:=n0_;have BK374:=n1_;have HB:=n2_;clear n0_ n1_ n2_;(try clear hb)))
  go_ret
  exact ⟨by first | rfl | (simp [errW_none,errW_some] <;> rfl) | (simp [*,errW_none,errW_some] <;> rfl),by repeat (first | (with_reducible first | exact HB.out | apply below_alloc | apply pw_below_drewN | apply below_drew1 | refine below_set ?_ GE374.out) | exact HB.out)⟩
 replace c8:=Bool.eq_false_iff.mpr c8
 subst c8
 have H1:(some 10) = some r:=by rw [if_neg (show ¬ (false = true) by decide)] at H;exact H
 clear H
 have H:=H1
 clear H1
 obtain rfl:=Option.some.inj H
 go_enter Try.func43,Try.ntmps43
 go_wp2_with (first | ((with_reducible refine gate_callee (f:=65) rfl ?_);refine goesL_ (some 10) rfl rfl Try.func65 (by kernel_rfl) rfl #[.string a0] rfl (by (try simp only [List.map_toArray,List.map_cons,List.map_nil]);first | done | rfl | (simp only [List.length_drop,List.length_take];rfl)) ?_;(with_reducible refine (card_newFunction.calls a0 t371 t372 true _ A3.out).mono ?_);rintro e w16 ⟨rfl,hb⟩;refine ⟨_,rfl,?_⟩;have n0_:=Aside0.mk (below_step (by repeat (first | (with_reducible first | exact HB.out | apply below_alloc | apply pw_below_drewN | apply below_drew1) | exact HB.out)) hb);clear HB;have HB:=n0_;clear n0_;(try clear hb)) | ((with_reducible refine gate_dst (N:=5) rfl ?_);refine box_event ?hg (N:=5) ?hd (cs:=#[.int .i64 0,.string (⟨#[]⟩:ByteArray)]) (t:=81) ?hr ?_;(case hd=>rfl);(case hg=>rfl);(case hr=>first | (go_simp;done) | (go_simp;rfl));intro gb374 hg w17 hbox hb;have n0_:=Aside0.mk (below_step (by repeat (first | (with_reducible first | exact HB.out | apply below_alloc | apply pw_below_drewN | apply below_drew1) | exact HB.out)) hb);have n1_:=Aside0.mk (hbox);have n2_:=Aside0.mk ((by rw [hg];exact (below_size (by repeat (first | (with_reducible first | exact HB.out | apply below_alloc | apply pw_below_drewN | apply below_drew1) | exact HB.out))):w.heap.size ≤ gb374));have n3_:=Aside0.mk ((by rw [hg];exact (below_size (by repeat (first | (with_reducible first | exact HB.out | apply below_alloc | apply pw_below_drewN | apply below_drew1) | exact HB.out))):w.heap.size ≤ gb374));clear HB;have HB:=n0_;have BK374:=n1_;have GW374:=n2_;have GE374:=n3_;clear n0_ n1_ n2_ n3_;clear hb hbox hg;have hcz18_0:w17.cell? ⟨gb374,0,none⟩ = some (.int .i64 0):=(blk_cell BK374.out 0).trans rfl;have hcz18_1:w17.cell? ⟨gb374,1,none⟩ = some (.string (⟨#[]⟩:ByteArray)):=(blk_cell BK374.out 1).trans rfl;have hfz18_0:=blk_frozen BK374.out 0;have hfz18_1:=blk_frozen BK374.out 1) | ((with_reducible refine gate_callee (f:=77) rfl ?_);refine goesL_ (some 18) rfl rfl Try.func77 (by kernel_rfl) rfl #[.agg #[.int .i64 t371,.string t372],.slice A1 l1.length c1] rfl (by (try simp only [List.map_toArray,List.map_cons,List.map_nil]);first | done | rfl | (simp only [List.length_drop,List.length_take];rfl)) ?_;(with_reducible refine (card_function_cubes.calls k t371 t372 _ _ l1 t375 true _ ?side1 ?side2 A5.out).mono ?_);(case side1=>exact Kd.C_below HR1.out (by repeat (first | (with_reducible first | exact HB.out | apply below_alloc | apply pw_below_drewN | apply below_drew1 | refine below_set ?_ GE374.out) | exact HB.out)));(case side2=>exact HC1.out);rintro e w19 ⟨v376,rfl,ho0,hb⟩;refine ⟨_,rfl,?_⟩;have n0_:=Aside0.mk (Kd.R_lower ho0 (below_size (by repeat (first | (with_reducible first | exact HB.out | apply below_alloc | apply pw_below_drewN | apply below_drew1 | refine below_set ?_ GE374.out) | exact HB.out))));have n1_:=Aside0.mk (blk_below (g:=gb374) (o:=.cells #[.int .i64 t371,.string t372] 81 (0,0)) (by (with_reducible repeat (first | refine blk_drewN ?_ _ | refine blk_drew ?_ | refine blk_alloc ?_ _));refine blk_put (cs:=#[.int .i64 t371,.string (⟨#[]⟩:ByteArray)]) ?_ 1 _ rfl;(with_reducible repeat (first | refine blk_drewN ?_ _ | refine blk_drew ?_ | refine blk_alloc ?_ _));refine blk_put (cs:=#[.int .i64 0,.string (⟨#[]⟩:ByteArray)]) ?_ 0 _ rfl;(with_reducible repeat (first | refine blk_drewN ?_ _ | refine blk_drew ?_ | refine blk_alloc ?_ _));exact BK374.out) hb);have n2_:=Aside0.mk (below_step (by repeat (first | (with_reducible first | exact HB.out | apply below_alloc | apply pw_below_drewN | apply below_drew1 | refine below_set ?_ GE374.out) | exact HB.out)) hb);clear BK374;clear HB;have HO377:=n0_;have BK374:=n1_;have HB:=n2_;clear n0_ n1_ n2_;(try clear hb);(try clear ho0);have hcz20_0:w19.cell? ⟨gb374,0,none⟩ = some (.int .i64 t371):=(blk_cell BK374.out 0).trans rfl;have hcz20_1:w19.cell? ⟨gb374,1,none⟩ = some (.string t372):=(blk_cell BK374.out 1).trans rfl;have hfz20_0:=blk_frozen BK374.out 0;have hfz20_1:=blk_frozen BK374.out 1;obtain ⟨Ao21,co21,eo21⟩:=Kd.R_slice HO377.out;subst eo21) | ((with_reducible refine gate_callee (f:=78) rfl ?_);refine goesL_ (some 27) rfl rfl Try.func78 (by kernel_rfl) rfl #[.agg #[.int .i64 t371,.string t372],.slice Ao21 t375.length co21] rfl (by (try simp only [List.map_toArray,List.map_cons,List.map_nil]);first | done | rfl | (simp only [List.length_drop,List.length_take];rfl)) ?_;(with_reducible refine (card_function_isCover.calls t371 t372 _ _ t375 false _ ?side1 ?side2 A7.out).mono ?_);(case side1=>repeat (first | exact (Kd.R_reads' HO377.out).2.2 | (with_reducible refine Kd.C_alloc ?_ _) | (with_reducible refine Kd.C_drewN ?_ _) | (with_reducible refine Kd.C_drew ?_)));(case side2=>exact (Kd.R_reads' HO377.out).2.1);rintro e w22 ⟨rfl,hb⟩;refine ⟨_,rfl,?_⟩;have n0_:=Aside0.mk (Kd.R_below (by (with_reducible repeat (first | apply Kd.R_alloc | apply Kd.R_drewN | apply Kd.R_drew));exact HO377.out) hb);have n1_:=Aside0.mk (blk_below (g:=gb374) (o:=.cells #[.int .i64 t371,.string t372] 81 (0,0)) (by (with_reducible repeat (first | refine blk_drewN ?_ _ | refine blk_drew ?_ | refine blk_alloc ?_ _));exact BK374.out) hb);have n2_:=Aside0.mk (below_step (by repeat (first | (with_reducible first | exact HB.out | apply below_alloc | apply pw_below_drewN | apply below_drew1 | refine below_set ?_ GE374.out) | exact HB.out)) hb);clear HO377;clear BK374;clear HB;have HO377:=n0_;have BK374:=n1_;have HB:=n2_;clear n0_ n1_ n2_;(try clear hb)))
 go_ret
 exact ⟨by first | rfl | (simp [errW_none,errW_some] <;> rfl) | (simp [*,errW_none,errW_some] <;> rfl),by repeat (first | (with_reducible first | exact HB.out | apply below_alloc | apply pw_below_drewN | apply below_drew1 | refine below_set ?_ GE374.out) | exact HB.out)⟩
end Go.Proofs.Ythpahlkhiknofaa.G
namespace Go.Proofs.Ythpahlkhiknofaa.H
open Go Go.RowKit Go.Shelf Go.Proofs.Ythpahlkhiknofaa.G Go.Proofs.Ythpahlkhiknofaa.P Go.Proofs.YthpahlkhiknofaaW.PrintWords Go.Proofs.YthpahlkhiknofaaW.PrintLast Go.Proofs.YthpahlkhiknofaaW.PrintMore
def LaidC (cur:Array Value) (l:List S96):Prop:=∀ j x,l[j]? = some x → cur[j * 2]? = some (.int .i64 x.f0) ∧ cur[j * 2 + 1]? = some (.int .i64 x.f1)
theorem take_two {cs:List Value} {j:Nat} {a b:Value} (h:(cs.drop (j * 2)).take 2 = [a,b]):cs[j * 2]? = some a ∧ cs[j * 2 + 1]? = some b:=by
 have e0:=congrArg (fun l:List Value=>l[0]?) h
 have e1:=congrArg (fun l:List Value=>l[1]?) h
 simp only [List.getElem?_take,List.getElem?_drop,List.getElem?_cons_zero,List.getElem?_cons_succ] at e0 e1
 exact ⟨by simpa using e0,by simpa using e1⟩
theorem own96 {w:World} {base:Nat} {ok:Nat → Prop} {v:Value} {l:List S96} (h:Kd.R k96 96 w base ok v l) (h0:0 < l.length):∃ g cap cur,v = .slice (some ⟨g,0,none⟩) l.length cap ∧ base ≤ g ∧ w.heap[g]? = some (.cells cur 96 (0,0)) ∧ l.length ≤ cap ∧ cap ≤ 9223372036854775807 ∧ cur.size = cap * 2 ∧ LaidC cur l ∧ ∀ u ∈ cur.toList.take (l.length * 2),u.oneCell' = true:=by
 obtain ⟨_,inner,⟨hlen,ho⟩,hr⟩:=h
 rcases ho with ⟨_,e⟩ | ⟨g,cap,cur,rfl,hg,hh,h1,h2,h3,h4⟩
 ·omega
 have hs:k96.sz = 2:=rfl
 rw [hs] at h3 h4 hr hlen
 have key:∀ j x,l[j]? = some x → inner[j * 2]? = some (.int .i64 x.f0) ∧ inner[j * 2 + 1]? = some (.int .i64 x.f1):=fun j x hx=>take_two (k96_openM (hr.2 j x hx))
 have lj:∀ j x,l[j]? = some x → j < l.length:=fun j x hx=>(List.getElem?_eq_some_iff.1 hx).1
 refine ⟨g,cap,cur,rfl,hg,hh,h1,h2,h3,fun j x hx=>?_,?_⟩
 ·obtain ⟨a,b⟩:=key j x hx
  have:=lj j x hx
  rw [← h4,List.getElem?_take,if_pos (by omega)] at a
  rw [← h4,List.getElem?_take,if_pos (by omega)] at b
  rw [← Array.getElem?_toList,← Array.getElem?_toList]
  exact ⟨a,b⟩
 rw [h4]
 intro u hu
 obtain ⟨m,hm,rfl⟩:=List.getElem_of_mem hu
 have hmj:m / 2 < l.length:=by omega
 obtain ⟨a,b⟩:=key (m / 2) l[m / 2] (List.getElem?_eq_getElem hmj)
 rcases Nat.mod_two_eq_zero_or_one m with e | e
 ·rw [show m / 2 * 2 = m by omega,List.getElem?_eq_getElem hm] at a
  rw [Option.some.inj a];rfl
 rw [show m / 2 * 2 + 1 = m by omega,List.getElem?_eq_getElem hm] at b
 rw [Option.some.inj b];rfl
theorem laid_C {w:World} {g:Nat} {cur:Array Value} {l:List S96} (hh:w.heap[g]? = some (.cells cur 96 (0,0))) (hl:LaidC cur l) (hm:l.length ≤ 9223372036854775807):Kd.C k96 w (some ⟨g,0,none⟩) l.length l:=by
 refine ⟨rfl,hm,fun _=>⟨_,rfl,fun j x hx=>⟨[.int .i64 x.f0,.int .i64 x.f1],rfl,k96_mk w x,fun i u hu=>?_⟩⟩⟩
 obtain ⟨a,b⟩:=hl j x hx
 rw [Addr.add_lit,cell_of_row w g _ cur 96 (0,0) hh]
 rcases i with _ | _ | i
 ·simp only [List.getElem?_cons_zero,Option.some.injEq] at hu
  subst hu
  rw [show 0 + (j * k96.sz + 0) = j * 2 from by show 0 + (j * 2 + 0) = _;omega]
  exact a
 ·simp only [List.getElem?_cons_succ,List.getElem?_cons_zero,Option.some.injEq] at hu
  subst hu
  rw [show 0 + (j * k96.sz + (0 + 1)) = j * 2 + 1 from by show 0 + (j * 2 + (0 + 1)) = _;omega]
  exact b
 simp at hu
theorem laid_del {cur cur':Array Value} {l:List S96} {i:Nat} (hi:i < l.length) (hl:LaidC cur l) (hc:l.length * 2 ≤ cur.size) (h:cur'.toList.take ((l.length - 1) * 2) = cur.toList.take (i * 2) ++ gone cur l.length i):LaidC cur' (l.eraseIdx i):=by
 have cell:∀ m,m < (l.length - 1) * 2 → cur'[m]? = if m < i * 2 then cur[m]? else cur[m + 2]?:=fun m hm=>by
  have e:=congrArg (fun x:List Value=>x[m]?) h
  simp only [List.getElem?_take,if_pos hm] at e
  rw [← Array.getElem?_toList,e,List.getElem?_append]
  have hlen:(cur.toList.take (i * 2)).length = i * 2:=by rw [List.length_take,Array.length_toList];omega
  rw [hlen]
  by_cases h2:m < i * 2
  ·rw [if_pos h2,if_pos h2,List.getElem?_take,if_pos h2,Array.getElem?_toList]
  rw [if_neg h2,if_neg h2]
  unfold gone
  rw [List.getElem?_drop,List.getElem?_take,if_pos (by omega),Array.getElem?_toList]
  congr 1
  omega
 intro j x hx
 have hj:j < l.length - 1:=by
  have:=(List.getElem?_eq_some_iff.1 hx).1
  rw [List.length_eraseIdx_of_lt hi] at this
  exact this
 rw [List.getElem?_eraseIdx] at hx
 rw [cell (j * 2) (by omega),cell (j * 2 + 1) (by omega)]
 by_cases h2:j < i
 ·rw [if_pos h2] at hx
  rw [if_pos (by omega),if_pos (by omega)]
  exact hl j x hx
 rw [if_neg h2] at hx
 rw [if_neg (by omega),if_neg (by omega),show j * 2 + 2 = (j + 1) * 2 by omega,show j * 2 + 1 + 2 = (j + 1) * 2 + 1 by omega]
 exact hl (j + 1) x hx
theorem two_le {n m cap:Nat} (h:n = cap * 2) (h2:m ≤ cap):m * 2 ≤ n:=by omega
theorem era_max (q:List S96) (i:Nat) (h:q.length ≤ 1000):(q.eraseIdx i).length ≤ 9223372036854775807:=by have:=List.length_eraseIdx_le q i;omega
theorem wrap_i {i n:Nat} (h:i < n) (h2:n ≤ 1000):IntKind.i64.wrap ((i:Int) + 1) = (i:Int) + 1:=IntWalk.i64_in _ ⟨by omega,by omega⟩
def irrB (s:ByteArray) (l:List S96) (d i:Nat):Bool:=allF (fun i=>!covB s (l.eraseIdx i)) d i
set_option maxHeartbeats 8000000 in
set_option maxRecDepth 100000 in
theorem irr47 (k:Nat) (s:ByteArray) (A:Option Addr) (c:Nat) (l:List ByteArray) (w:World) (hl:Kd.C Kd.string w A l.length l) (hlc:l.length ≤ c) (hsz:s.size ≤ 1000) (n:Int) (ok:Bool) (q:List S96) (b:Bool)
  (h43:card_Check.f k s l = some 0) (h65:card_newFunction.f s = some (n,s,ok)) (h77:card_function_cubes.f k n s l = some (q,b)) (hq:q.length ≤ 1000) :
  Calls Try.prog 47 #[.string s,.slice A l.length c] w fun e w'=>e = .returned (.tuple #[.bool (irrB s q q.length 0),.int .i64 0]) ∧ Below w.heap.size w w':=by
 have HL:=Lib.hid hl
 have H43:=Lib.hid h43
 have H65:=Lib.hid h65
 have H77:=Lib.hid h77
 clear hl h43 h65 h77
 go_enter Try.func47,Try.ntmps47
 go_wp2_with fail
 refine (card_Check.calls k s A c l 0 _ HL.out hlc H43.out).mono ?_
 rintro e w1 ⟨rfl,hb1⟩
 have HB1:=Lib.hid hb1
 clear hb1
 go_wp2_with fail
 refine (card_newFunction.calls s n s ok _ H65.out).mono ?_
 rintro e w2 ⟨rfl,hb2⟩
 have hb2':=HB1.out.trans (hb2.mono HB1.out.size)
 have HB2:=Lib.hid hb2'
 clear hb2 hb2'
 go_wp2_with fail
 have hba:=HB2.out.alloc HB2.out.size (Obj.cells #[Value.int IntKind.i64 n,Value.string s] 81)
 have hcells:=World.alloc_heap_new w2 (Obj.cells #[Value.int IntKind.i64 n,Value.string s] 81)
 have hca:(w2.alloc (Obj.cells #[Value.int IntKind.i64 n,Value.string s] 81)).cell? { block:=w2.heap.size,off:=0 } = some (.int .i64 n):=by unfold World.cell?;rw [hcells];rfl
 have hcb:(w2.alloc (Obj.cells #[Value.int IntKind.i64 n,Value.string s] 81)).cell? { block:=w2.heap.size,off:=1 } = some (.string s):=by unfold World.cell?;rw [hcells];rfl
 have HBA:=Lib.hid hba
 have HCA:=Lib.hid hca
 have HCB:=Lib.hid hcb
 clear hba hcells
 refine (card_function_cubes.calls k n s A c l q b _ (Kd.C_below HL.out HBA.out) hlc H77.out).mono ?_
 rintro e w3 ⟨v0,rfl,ho3,hb3⟩
 obtain ⟨A0,c0,rfl⟩:=Kd.R_slice ho3
 obtain ⟨_,hlc0,hC3⟩:=Kd.R_reads' ho3
 have hn1:=World.block_lt_of_cell? _ _ HCA.out
 have hn2:=World.block_lt_of_cell? _ _ HCB.out
 have hca3:=(hb3.cell hn1).trans HCA.out
 have hcb3:=(hb3.cell hn2).trans HCB.out
 have hB3:=HBA.out.trans (hb3.mono HBA.out.size)
 have HB3:=Lib.hid hB3
 have HC3:=Lib.hid hC3
 have HCA3:=Lib.hid hca3
 have HCB3:=Lib.hid hcb3
 clear ho3 hb3 hC3 hca3 hcb3 hB3 HCA HCB hca hcb hn1 hn2
 go_wp2_with fail
 go_loopg [31] q.length (fun m s31 W=>∃ i:Nat,s31 = .int .i64 (i:Int) ∧ i ≤ q.length ∧ q.length ≤ m + i ∧ Below w3.heap.size w3 W ∧ irrB s q q.length 0 = irrB s q (q.length - i) i)
 case atStart=>exact ⟨0,rfl,by omega,by omega,Below.refl _ _,rfl⟩
 case round =>
  obtain ⟨i,rfl,hi,hm,hB,hv⟩:=hrel
  have HB:=Lib.hid hB
  have HV:=Lib.hid hv
  clear hB hv
  by_cases hiq:i < q.length
  case neg =>
   have:i = q.length:=by omega
   subst this
   go_wp2_with fail
   refine bodyPost_ret (v:=.tuple #[.bool true,.int .i64 0]) (results_tmp2 (t:=4) (u:=5) rfl _ _ _) rfl ⟨?_,HB3.out.trans (HB.out.mono HB3.out.size)⟩
   rw [HV.out,Nat.sub_self];rfl
  have hca:=(HB.out.cell (World.block_lt_of_cell? _ _ HCA3.out)).trans HCA3.out
  have hcb:=(HB.out.cell (World.block_lt_of_cell? _ _ HCB3.out)).trans HCB3.out
  have hC:=Kd.C_below HC3.out HB.out
  have HC:=Lib.hid hC
  clear hC
  go_wp2_with fail
  have hwr:IntKind.i64.wrap ((i:Int) + 1) = (i:Int) + 1:=wrap_i hiq hq
  have hel:Hid ((q.eraseIdx i).length = q.length - 1):=Lib.hid (List.length_eraseIdx_of_lt hiq)
  go_region_held3 (fun w'=>w'.cell? { block:=w2.heap.size,off:=0 } = some (.int .i64 n) ∧ w'.cell? { block:=w2.heap.size,off:=1 } = some (.string s)) (first | exact ⟨hca,hcb⟩ | go_keep)
   (first
    | (go_at_call 82;refine (clone82 A0 c0 q _ (Kd.C_drew HC.out) hlc0 (Nat.lt_of_le_of_lt hq (by decide))).mono ?_;rintro e w5 ⟨v5,rfl,ho5,hb5⟩;have HB5:=Lib.hid hb5;obtain ⟨g,cap,cur,rfl,hg,hh5,hl1,hl2,hl3,hlaid,hone⟩:=own96 ho5 (Nat.lt_of_le_of_lt (Nat.zero_le i) hiq);have hca5:=(hb5.cell (show _ < wr.heap.size from World.block_lt_of_cell? _ _ hca)).trans hca;have hcb5:=(hb5.cell (show _ < wr.heap.size from World.block_lt_of_cell? _ _ hcb)).trans hcb;have HH5:=Lib.hid hh5;have HL3:=Lib.hid hl3;have HLA:=Lib.hid hlaid;have HONE:=Lib.hid hone;clear ho5 hb5 hh5 hl3 hlaid hone)
    | (go_at_call 81;refine (delete81 g q.length cap i cur _ HH5.out HL3.out hl1 hl2 hiq HONE.out).mono ?_;rintro e w6 ⟨cur',rfl,hh6,ht6,hb6⟩;have hca6:=(hb6.cell (show w2.heap.size < g from Nat.lt_of_lt_of_le (World.block_lt_of_cell? _ _ hca) hg)).trans hca5;have hcb6:=(hb6.cell (show w2.heap.size < g from Nat.lt_of_lt_of_le (World.block_lt_of_cell? _ _ hca) hg)).trans hcb5;have HC6:=Lib.hid (laid_C hh6 (laid_del hiq HLA.out (two_le HL3.out hl1) ht6) (era_max q i hq));have HB6:=Lib.hid hb6;clear hh6 ht6 hb6)
    | (go_at_call 78;have hcv:=isCover78 n s (some ⟨g,0,none⟩) cap (q.eraseIdx i) w6 HC6.out (era_max q i hq) hsz;rw [hel.out] at hcv;refine hcv.mono ?_;rintro e w7 ⟨rfl,hb7⟩;have HB7:=Lib.hid hb7;have hca7:=(hb7.cell (World.block_lt_of_cell? _ _ hca6)).trans hca6;have hcb7:=(hb7.cell (World.block_lt_of_cell? _ _ hcb6)).trans hcb6;obtain ⟨r,hr⟩:∃ r,covB s (q.eraseIdx i) = r:=⟨_,rfl⟩;rw [hr];have HR:=Lib.hid hr;clear hb7 hr))
  have hb6:Below w3.heap.size w3 w6:=(below_drew1 HB.out).trans ((HB5.out.mono HB.out.size).trans (HB6.out.mono (Nat.le_trans HB.out.size hg)))
  have hB7:=hb6.trans (HB7.out.mono hb6.size)
  have HB77:=Lib.hid hB7
  have hst:irrB s q (q.length - i) i = (!covB s (q.eraseIdx i) && irrB s q (q.length - (i + 1)) (i + 1)):=by
   rw [show q.length - i = (q.length - (i + 1)) + 1 by omega];rfl
  have HST:=Lib.hid hst
  have hw1:=wrap_succ (i:=i) (by omega)
  clear hb6 hB7 hst
  cases r with
  | true =>
   go_wp2_with fail
   refine bodyPost_ret (v:=.tuple #[.bool false,.int .i64 0]) (results_tmp2 (t:=4) (u:=5) rfl _ _ _) rfl ⟨?_,HB3.out.trans (HB77.out.mono HB3.out.size)⟩
   rw [HV.out,HST.out,HR.out];rfl
  | false =>
   go_wp2_with fail
   go_roundg (q.length - (i + 1))
   case measure=>clear hw1;omega
   case rel=>exact ⟨i + 1,by simp [hw1],hiq,by clear hw1;omega,HB77.out,by rw [HV.out,HST.out,HR.out];rfl⟩
set_option maxHeartbeats 8000000 in
set_option maxRecDepth 100000 in
theorem irr_no (k:Nat) (s:ByteArray) (A:Option Addr) (c:Nat) (l:List ByteArray) (w:World) (hl:Kd.C Kd.string w A l.length l) (hlc:l.length ≤ c) (r:Int) (h43:card_Check.f k s l = some r) (hr:r ≠ 0) :
  Calls Try.prog 47 #[.string s,.slice A l.length c] w fun e w'=>e = .returned (.tuple #[.bool false,.int .i64 r]) ∧ Below w.heap.size w w':=by
 have HL:=Lib.hid hl
 have H43:=Lib.hid h43
 have hb1:(r == 0) = false:=beq_eq_false_iff_ne.2 hr
 have hb2:(r != 0) = true:=bne_iff_ne.2 hr
 clear hl h43
 go_enter Try.func47,Try.ntmps47
 go_wp2_with fail
 refine (card_Check.calls k s A c l r _ HL.out hlc H43.out).mono ?_
 rintro e w1 ⟨rfl,hb1⟩
 have HB1:=Lib.hid hb1
 clear hb1
 go_wp2_with fail
 exact bodyPost_ret (v:=.tuple #[.bool false,.int .i64 r]) (results_tmp2 (t:=4) (u:=5) rfl _ _ _) rfl ⟨rfl,HB1.out⟩
end Go.Proofs.Ythpahlkhiknofaa.H
namespace Go.Proofs.Ythpahlkhiknofaa.G
open Go Go.RowKit Go.Proofs.YthpahlkhiknofaaW.PrintWords
def card_Irredundant.f (k:Nat) (a0:ByteArray) (l1:List ByteArray):Option (Bool × Int):=(card_Check.f k a0 l1).bind fun e=>if e = 0 then ((card_newFunction.f a0).bind fun t=>(card_function_cubes.f k t.1 a0 l1).bind fun q=>if t.2.1 = a0 ∧ a0.size ≤ 1000 ∧ q.1.length ≤ 1000 then some (H.irrB a0 q.1 q.1.length 0,0) else none) else some (false,e)
theorem card_Irredundant.mono:∀ a0 a1 k,LeO (card_Irredundant.f k a0 a1) (card_Irredundant.f (k + 1) a0 a1):=by
 intro a0 a1 k
 unfold card_Irredundant.f
 refine LeO.bind (card_Check.mono _ _ _) (fun _=>LeO.ite ?_ (LeO.refl _))
 exact LeO.bind (LeO.refl _) (fun _=>LeO.bind (card_function_cubes.mono _ _ _ _) (fun _=>LeO.refl _))
theorem card_Irredundant.calls (k:Nat) (a0:ByteArray) (A1:Option Addr) (c1:Nat) (l1:List ByteArray) (r1:Bool) (r2:Int) (w:World) (hr1:Kd.C Kd.string w A1 l1.length l1) (hc1:l1.length ≤ c1) (h:card_Irredundant.f k a0 l1 = some (r1,r2)) :
  Calls Try.prog 47 #[.string a0,.slice A1 l1.length c1] w fun e w'=>e = .returned (.tuple #[.bool r1,.int .i64 r2]) ∧ Below w.heap.size w w':=by
 unfold card_Irredundant.f at h
 obtain ⟨e,he,h⟩:=Option.bind_eq_some_iff.1 h
 by_cases e0:e = 0
 case neg =>
  rw [if_neg e0] at h
  have h3:=Option.some.inj h
  injection h3 with h4 h5
  subst h4 h5
  exact H.irr_no k a0 A1 c1 l1 w hr1 hc1 e he e0
 rw [if_pos e0] at h
 subst e0
 obtain ⟨t,ht,h⟩:=Option.bind_eq_some_iff.1 h
 obtain ⟨n,s,ok⟩:=t
 obtain ⟨q,hq,h⟩:=Option.bind_eq_some_iff.1 h
 by_cases hf:s = a0 ∧ a0.size ≤ 1000 ∧ q.1.length ≤ 1000
 case neg =>
  rw [if_neg (show ¬ ((n,s,ok).2.1 = a0 ∧ _) from hf)] at h
  cases h
 rw [if_pos (show (n,s,ok).2.1 = a0 ∧ _ from hf)] at h
 obtain ⟨rfl,h1,h2⟩:=hf
 have h3:=Option.some.inj h
 injection h3 with h4 h5
 subst h4 h5
 exact H.irr47 k s A1 c1 l1 w hr1 hc1 h1 n ok q.1 q.2 he ht hq h2
end Go.Proofs.Ythpahlkhiknofaa.G
namespace Go.Proofs
open Go.Shelf
def Try.sortCube_ren:Go.Shelf.Ren:=⟨fun | 6=>99 | 15=>94 | 14=>120 | 28=>116 | 29=>117 | 20=>125 | 21=>126 | 22=>127 | 23=>128 | 24=>129 | 25=>130 | 26=>131 | 27=>132 | 46=>138 | 47=>139 | 48=>140 | 49=>141 | 50=>142 | 57=>145 | n=>n,fun | 22=>93 | 24=>96 | 25=>123 | 3=>3 | 39=>91 | 0=>0 | 53=>134 | 55=>136 | 4=>4 | 46=>146 | 45=>145 | 50=>130 | 5=>5 | 9=>9 | 66=>152 | 70=>156 | 76=>160 | 77=>72 | n=>n,fun | n=>n⟩
theorem Try.sortCube:Go.Proofs.SlLaysF0.n6 Try.prog Try.sortCube_ren:={
  mixed:=by kernel_rfl
  f6:=⟨Try.f99.name,by decide,Try.func99.trans (congrArg some (by kernel_rfl))⟩
  f14:=⟨Try.f120.name,by decide,Try.func120.trans (congrArg some (by kernel_rfl))⟩
  f15:=Try.func94.trans (congrArg some (by kernel_rfl))
  f20:=⟨Try.f125.name,by decide,Try.func125.trans (congrArg some (by kernel_rfl))⟩
  f21:=⟨Try.f126.name,by decide,Try.func126.trans (congrArg some (by kernel_rfl))⟩
  f22:=⟨Try.f127.name,by decide,Try.func127.trans (congrArg some (by kernel_rfl))⟩
  f23:=⟨Try.f128.name,by decide,Try.func128.trans (congrArg some (by kernel_rfl))⟩
  f24:=⟨Try.f129.name,by decide,Try.func129.trans (congrArg some (by kernel_rfl))⟩
  f25:=⟨Try.f130.name,by decide,Try.func130.trans (congrArg some (by kernel_rfl))⟩
  f26:=⟨Try.f131.name,by decide,Try.func131.trans (congrArg some (by kernel_rfl))⟩
  f27:=⟨Try.f132.name,by decide,Try.func132.trans (congrArg some (by kernel_rfl))⟩
  f28:=Try.func116.trans (congrArg some (by kernel_rfl))
  f29:=Try.func117.trans (congrArg some (by kernel_rfl))
  f46:=⟨Try.f138.name,by decide,Try.func138.trans (congrArg some (by kernel_rfl))⟩
  f47:=Try.func139.trans (congrArg some (by kernel_rfl))
  f48:=Try.func140.trans (congrArg some (by kernel_rfl))
  f49:=⟨Try.f141.name,by decide,Try.func141.trans (congrArg some (by kernel_rfl))⟩
  f50:=⟨Try.f142.name,by decide,Try.func142.trans (congrArg some (by kernel_rfl))⟩
  f57:=⟨Try.f145.name,by decide,Try.func145.trans (congrArg some (by kernel_rfl))⟩
  t0:=Try.underlying0
  a0:=Try.isAgg0
  z0:=Try.sizeOf0
  v0:=Try.zeroValue0
  t3:=Try.underlying3
  a3:=Try.isAgg3
  z3:=Try.sizeOf3
  v3:=Try.zeroValue3
  t4:=Try.underlying4
  a4:=Try.isAgg4
  z4:=Try.sizeOf4
  v4:=Try.zeroValue4
  t5:=Try.underlying5
  a5:=Try.isAgg5
  z5:=Try.sizeOf5
  v5:=Try.zeroValue5
  t9:=Try.underlying9
  a9:=Try.isAgg9
  z9:=Try.sizeOf9
  v9:=Try.zeroValue9
  t22:=Try.underlying93
  a22:=Try.isAgg93
  z22:=Try.sizeOf93
  v22:=Try.zeroValue93
  t25:=Try.underlying123
  a25:=Try.isAgg123
  z25:=Try.sizeOf123
  v25:=Try.zeroValue123
  t39:=Try.underlying91
  a39:=Try.isAgg91
  z39:=Try.sizeOf91
  v39:=Try.zeroValue91
  t45:=Try.underlying145
  a45:=Try.isAgg145
  z45:=Try.sizeOf145
  v45:=Try.zeroValue145
  t46:=Try.underlying146
  a46:=Try.isAgg146
  z46:=Try.sizeOf146
  v46:=Try.zeroValue146
  t50:=Try.underlying130
  a50:=Try.isAgg130
  z50:=Try.sizeOf130
  v50:=Try.zeroValue130
  t53:=Try.underlying134
  a53:=Try.isAgg134
  z53:=Try.sizeOf134
  v53:=Try.zeroValue134
  t55:=Try.underlying136
  a55:=Try.isAgg136
  z55:=Try.sizeOf136
  v55:=Try.zeroValue136
  t66:=Try.underlying152
  a66:=Try.isAgg152
  z66:=Try.sizeOf152
  v66:=Try.zeroValue152
  t70:=Try.underlying156
  a70:=Try.isAgg156
  z70:=Try.sizeOf156
  v70:=Try.zeroValue156
  t76:=Try.underlying160
  a76:=Try.isAgg160
  z76:=Try.sizeOf160
  v76:=Try.zeroValue160
  t77:=Try.underlying72
  a77:=Try.isAgg72
  z77:=Try.sizeOf72
  v77:=Try.zeroValue72 }
end Go.Proofs
namespace Go.Proofs.Ythpahlkhiknofaa.H
open Go Go.RowKit Go.Shelf Go.Proofs.Ythpahlkhiknofaa.G Go.Proofs.Ythpahlkhiknofaa.P Go.Proofs.YthpahlkhiknofaaW.PrintWords Go.Proofs.YthpahlkhiknofaaW.PrintLast Go.Proofs.YthpahlkhiknofaaW.PrintMore
@[reducible] def inh96:Inhabited S96:=⟨z96⟩
attribute [local instance] inh96
def txt (n:Nat) (x:S96):ByteArray:=strOfNums (txL x.f0 x.f1 n n)
def cmpC (n:Nat) (x y:S96):Int:=Lib.compareBytes (txt n x).data.toList (txt n y).data.toList
def enc96 (x:S96):List Value:=[.int .i64 x.f0,.int .i64 x.f1]
set_option maxHeartbeats 4000000 in
set_option maxRecDepth 100000 in
theorem closure100 (x y:S96) (gb n:Nat) (hn:n ≤ 62) (W:World) (hb:W.cell? ⟨gb,0,none⟩ = some (.int .i64 (n:Int))) :
  Calls Try.prog 100 #[.agg #[.int .i64 x.f0,.int .i64 x.f1],.agg #[.int .i64 y.f0,.int .i64 y.f1],.pointer (some ⟨gb,0,none⟩)] W fun e w'=>e = .returned (.int .i64 (cmpC n x y)) ∧ ∃ q os',w' = Go.Sort.grow (W.drewN q) os':=by
 refine Calls.mono (P:=Try.prog) (R:=fun e w'=>e = .returned (.int .i64 (cmpC n x y)) ∧ Below W.heap.size W w' ∧ ∃ q,w'.drawn = W.drawn + q) ?_ (fun e w' h=>⟨h.1,h.2.2.elim fun q hq=>⟨q,grown_of h.2.1 hq⟩⟩)
 have HB:=Lib.hid hb
 have HGB:=Lib.hid (World.block_lt_of_cell? _ _ hb)
 clear hb
 obtain ⟨W2,hW2⟩:∃ W2,(W.alloc (.cells #[.int .i64 x.f0,.int .i64 x.f1] 96)).alloc (.cells #[.int .i64 y.f0,.int .i64 y.f1] 96) = W2:=⟨_,rfl⟩
 have hB2:Below W.heap.size W W2:=by rw [← hW2];exact ((Below.refl _ _).alloc (Nat.le_refl _) _).alloc (by simp) _
 have hD2:W2.drawn = W.drawn:=by rw [← hW2];rfl
 have h1:=World.alloc_heap_new W (.cells #[.int .i64 x.f0,.int .i64 x.f1] 96)
 have h2:=World.alloc_heap_new (W.alloc (.cells #[.int .i64 x.f0,.int .i64 x.f1] 96)) (.cells #[.int .i64 y.f0,.int .i64 y.f1] 96)
 rw [World.size_alloc,hW2] at h2
 have h1':W2.heap[W.heap.size]? = some (.cells #[.int .i64 x.f0,.int .i64 x.f1] 96):=by
  rw [← hW2]
  exact (((Below.refl (W.heap.size + 1) (W.alloc (.cells #[.int .i64 x.f0,.int .i64 x.f1] 96))).alloc (by simp) _).block W.heap.size (Nat.lt_succ_self _)).trans h1
 have hx0:=cell_of_row _ W.heap.size 0 _ _ _ h1'
 have hx1:=cell_of_row _ W.heap.size 1 _ _ _ h1'
 have hy0:=cell_of_row _ (W.heap.size + 1) 0 _ _ _ h2
 have hy1:=cell_of_row _ (W.heap.size + 1) 1 _ _ _ h2
 have hg0:=(hB2.cell HGB.out).trans HB.out
 clear h1 h2 h1'
 go_enter Try.func100,Try.ntmps100
 go_wp2_with fail
 go_region_held3 (fun w'=>w'.cell? { block:=W.heap.size,off:=0 } = some (.int .i64 x.f0) ∧ w'.cell? { block:=W.heap.size,off:=1 } = some (.int .i64 x.f1) ∧ w'.cell? { block:=W.heap.size + 1,off:=0 } = some (.int .i64 y.f0) ∧ w'.cell? { block:=W.heap.size + 1,off:=1 } = some (.int .i64 y.f1) ∧ w'.cell? { block:=gb,off:=0 } = some (.int .i64 (n:Int))) (first | exact ⟨hx0,hx1,hy0,hy1,hg0⟩ | go_keep)
  (first
   | (go_at_call 97;(with_reducible refine (text97 x.f0 x.f1 n hn _).mono ?_);rintro e w5 ⟨rfl,hb5,hd5⟩;have hx05:=(hb5.cell (World.block_lt_of_cell? _ _ hx0)).trans hx0;have hx15:=(hb5.cell (World.block_lt_of_cell? _ _ hx1)).trans hx1;have hy05:=(hb5.cell (World.block_lt_of_cell? _ _ hy0)).trans hy0;have hy15:=(hb5.cell (World.block_lt_of_cell? _ _ hy1)).trans hy1;have hg05:=(hb5.cell (World.block_lt_of_cell? _ _ hg0)).trans hg0;have HB5:=Lib.hid hb5;have HD5:=Lib.hid hd5;clear hb5 hd5)
   | (go_at_call 97;(with_reducible refine (text97 y.f0 y.f1 n hn _).mono ?_);rintro e w6 ⟨rfl,hb6,hd6⟩;have hx06:=(hb6.cell (World.block_lt_of_cell? _ _ hx05)).trans hx05;have hx16:=(hb6.cell (World.block_lt_of_cell? _ _ hx15)).trans hx15;have hy06:=(hb6.cell (World.block_lt_of_cell? _ _ hy05)).trans hy05;have hy16:=(hb6.cell (World.block_lt_of_cell? _ _ hy15)).trans hy15;have hg06:=(hb6.cell (World.block_lt_of_cell? _ _ hg05)).trans hg05;have HB6:=Lib.hid hb6;have HD6:=Lib.hid hd6;clear hb6 hd6)
   | (go_at_call 101;(with_reducible refine (Try.strings_Compare _ _ _).mono ?_);rintro e w7 ⟨rfl,rfl⟩))
 go_wp2_with fail
 refine bodyPost_ret (v:=.int .i64 (cmpC n x y)) (results_tmp (t:=5) rfl _ _ _) rfl ⟨rfl,?_,1,?_⟩
 ·exact hB2.trans ((below_of_drew W.heap.size W2).trans ((HB5.out.mono hB2.size).trans (HB6.out.mono (Nat.le_trans hB2.size HB5.out.size))))
 rw [HD6.out,HD5.out,← hD2];rfl
theorem cmpLays100 (gb n:Nat) (hn:n ≤ 62) (blk off size:Nat) (w:World) (hne:gb ≠ blk) (hb:w.cell? ⟨gb,0,none⟩ = some (.int .i64 (n:Int))):CmpLays Try.prog 100 #[.pointer (some ⟨gb,0,none⟩)] enc96 2 (cmpC n) blk off size w:=by
 intro m os dk hs x y
 refine closure100 x y gb n hn _ ?_
 unfold Go.Proofs.sortWorldK
 have h1:(Go.Sort.putRowK enc96 2 (Go.Sort.ahead w m) blk off dk).cell? ⟨gb,0,none⟩ = some (.int .i64 (n:Int)):=(Go.Sort.cell?_putRowK_other _ _ (Go.Sort.ahead w m) blk off dk ⟨gb,0,none⟩ hne).trans hb
 exact (Go.Sort.cell?_grow _ _ _ (World.block_lt_of_cell? _ _ h1)).trans h1
end Go.Proofs.Ythpahlkhiknofaa.H
namespace Go.Proofs.Ythpahlkhiknofaa.H
open Go Go.RowKit Go.Shelf Go.Proofs.Ythpahlkhiknofaa.G Go.Proofs.Ythpahlkhiknofaa.P Go.Proofs.YthpahlkhiknofaaW.PrintWords Go.Proofs.YthpahlkhiknofaaW.PrintLast Go.Proofs.YthpahlkhiknofaaW.PrintMore
attribute [local instance] inh96
theorem cb_lt (x y:UInt8) (a b:List UInt8):Lib.compareBytes (x :: a) (y :: b) < 0 ↔ (x.toNat < y.toNat ∨ (x.toNat = y.toNat ∧ Lib.compareBytes a b < 0)):=by
 rw [Lib.compareBytes]
 simp only [UInt8.lt_iff_toNat_lt]
 by_cases h1:x.toNat < y.toNat
 ·simp [h1]
 by_cases h2:y.toNat < x.toNat
 ·simp [h1,h2];omega
 have:x.toNat = y.toNat:=by omega
 simp [this]
theorem cb_irr:∀ a:List UInt8,¬ Lib.compareBytes a a < 0
 | []=>by simp [Lib.compareBytes]
 | x :: a=>by rw [cb_lt];have:=cb_irr a;omega
theorem cb_trans:∀ a b c:List UInt8,Lib.compareBytes a b < 0 → Lib.compareBytes b c < 0 → Lib.compareBytes a c < 0
 | [],[],_,h,_=>by simp [Lib.compareBytes] at h
 | [],_ :: _,[],_,h=>by simp [Lib.compareBytes] at h
 | [],_ :: _,_ :: _,_,_=>by simp [Lib.compareBytes]
 | _ :: _,[],_,h,_=>by simp [Lib.compareBytes] at h
 | _ :: _,_ :: _,[],_,h=>by simp [Lib.compareBytes] at h
 | x :: a,y :: b,z :: c,h1,h2=>by
  rw [cb_lt] at h1 h2 ⊢
  have:=cb_trans a b c
  omega
theorem cb_ntrans:∀ a b c:List UInt8,¬ Lib.compareBytes a b < 0 → ¬ Lib.compareBytes b c < 0 → ¬ Lib.compareBytes a c < 0
 | [],[],[],_,_=>by simp [Lib.compareBytes]
 | [],[],_ :: _,_,h=>by simp [Lib.compareBytes] at h
 | [],_ :: _,_,h,_=>by simp [Lib.compareBytes] at h
 | _ :: _,_,[],_,_=>by simp [Lib.compareBytes]
 | _ :: _,[],_ :: _,_,h=>by simp [Lib.compareBytes] at h
 | x :: a,y :: b,z :: c,h1,h2=>by
  rw [cb_lt] at h1 h2 ⊢
  have:=cb_ntrans a b c
  omega
theorem swoC (n:Nat):Go.Sort.SWO (ltOf (cmpC n)) where
 irrefl x:=decide_eq_false (cb_irr (txt n x).data.toList)
 trans x y z h1 h2:=decide_eq_true (cb_trans _ _ _ (of_decide_eq_true h1) (of_decide_eq_true h2))
 ntrans x y z h1 h2:=decide_eq_false (cb_ntrans _ _ _ (of_decide_eq_false h1) (of_decide_eq_false h2))
theorem sort99 (gb n:Nat) (hn:n ≤ 62) (blk off cap:Nat) (d:Array S96) (w:World) (hne:gb ≠ blk) (hb:w.cell? ⟨gb,0,none⟩ = some (.int .i64 (n:Int))) (hH:Go.Sort.HoldsK enc96 2 w blk off d) (hblk:blk < w.heap.size) (hsz:d.size < 4611686018427387904) :
  Calls Try.prog 99 #[.slice (some ⟨blk,off,none⟩) d.size cap,.func (.func 100) #[] #[.pointer (some ⟨gb,0,none⟩)]] w fun e w'=>e = .returned (.tuple #[]) ∧ ∃ d' m os,Go.Sort.PermIn 0 d.size d d' ∧ Go.Sort.SortedIn (ltOf (cmpC n)) 0 d.size d' ∧ w' = sortWorldK enc96 2 w blk off m d' os:=by
 have eg:∀ args w,(callFunc 100 args).run Try.prog w = .ok (.enter 100 args) w:=enters_of Try.func100 (by kernel_rfl) rfl
 exact AnyQ.slices_SortFunc Try.sortCube 2 Try.isAgg96 Try.sizeOf96 enc96 (fun _=>rfl) (fun x v hv=>by simp [enc96] at hv;rcases hv with rfl | rfl <;> rfl) (cmpC n) (swoC n) 100 #[.pointer (some ⟨gb,0,none⟩)] blk off cap d w eg (cmpLays100 gb n hn blk off d.size w hne hb) hH hblk hsz
end Go.Proofs.Ythpahlkhiknofaa.H
namespace Go.Proofs.Ythpahlkhiknofaa.H
open Go Go.RowKit Go.Shelf Go.Proofs.Ythpahlkhiknofaa.G Go.Proofs.Ythpahlkhiknofaa.P Go.Proofs.YthpahlkhiknofaaW.PrintWords Go.Proofs.YthpahlkhiknofaaW.PrintLast Go.Proofs.YthpahlkhiknofaaW.PrintMore
attribute [local instance] inh96
theorem holdsK_laid {w:World} {g:Nat} {cur:Array Value} {l:List S96} (h:w.heap[g]? = some (.cells cur 96 (0,0))) (hL:LaidC cur l):Go.Sort.HoldsK enc96 2 w g 0 l.toArray:=by
 intro t ht
 rw [Go.Sort.size_flatK,List.size_toArray] at ht
 rw [Go.Sort.get_flatK enc96 2 l.toArray t (by rw [List.size_toArray];exact ht),Nat.zero_add]
 have hj:t / 2 < l.length:=by omega
 obtain ⟨h0,h1⟩:=hL (t / 2) l[t / 2] (List.getElem?_eq_getElem hj)
 have hd:l.toArray[t / 2]! = l[t / 2]:=by
  rw [getElem!_pos l.toArray (t / 2) (by rw [List.size_toArray];exact hj)];exact List.getElem_toArray _
 refine ⟨(cell_of_row w g t cur 96 (0,0) h).trans ?_,blk_frozen h t⟩
 rw [id,hd]
 rcases Nat.mod_two_eq_zero_or_one t with e | e
 ·have:t = t / 2 * 2:=by omega
  rw [e];rw [← this] at h0;exact h0
 ·have:t = t / 2 * 2 + 1:=by omega
  rw [e];rw [← this] at h1;exact h1
end Go.Proofs.Ythpahlkhiknofaa.H
namespace Go.Proofs.Ythpahlkhiknofaa.H
open Go Go.RowKit Go.Shelf Go.Proofs.Ythpahlkhiknofaa.G Go.Proofs.Ythpahlkhiknofaa.P Go.Proofs.YthpahlkhiknofaaW.PrintWords Go.Proofs.YthpahlkhiknofaaW.PrintLast Go.Proofs.YthpahlkhiknofaaW.PrintMore
attribute [local instance] inh96
theorem laid_of_holds {w:World} {g:Nat} {cur:Array Value} {d:Array S96} (h:w.heap[g]? = some (.cells cur 96 (0,0))) (hH:Go.Sort.HoldsK enc96 2 w g 0 d):LaidC cur d.toList:=by
 intro j x hx
 have hj:j < d.size:=by
  rcases Nat.lt_or_ge j d.size with h | h
  ·exact h
  ·rw [List.getElem?_eq_none (by simpa using h)] at hx;cases hx
 have hd:d[j]! = x:=by
  rw [getElem!_pos d j hj]
  rw [List.getElem?_eq_getElem (by simpa using hj)] at hx
  exact Option.some.inj hx
 have h0:=(hH (j * 2) (by rw [Go.Sort.size_flatK];omega)).1
 have h1:=(hH (j * 2 + 1) (by rw [Go.Sort.size_flatK];omega)).1
 rw [cell_of_row w g _ cur 96 (0,0) h,Nat.zero_add,Go.Sort.get_flatK enc96 2 d _ (by omega)] at h0
 rw [cell_of_row w g _ cur 96 (0,0) h,Nat.zero_add,Go.Sort.get_flatK enc96 2 d _ (by omega)] at h1
 rw [show j * 2 / 2 = j by omega,show j * 2 % 2 = 0 by omega,hd] at h0
 rw [show (j * 2 + 1) / 2 = j by omega,show (j * 2 + 1) % 2 = 1 by omega,hd] at h1
 exact ⟨h0,h1⟩
end Go.Proofs.Ythpahlkhiknofaa.H
namespace Go.Proofs.Ythpahlkhiknofaa.H
open Go Go.RowKit Go.Shelf Go.Proofs.Ythpahlkhiknofaa.G Go.Proofs.Ythpahlkhiknofaa.P Go.Proofs.YthpahlkhiknofaaW.PrintWords Go.Proofs.YthpahlkhiknofaaW.PrintLast Go.Proofs.YthpahlkhiknofaaW.PrintMore
attribute [local instance] inh96
theorem sorted_block {w:World} {g:Nat} {cur:Array Value} {d d':Array S96} (m:Nat) (os:Array Obj) (h:w.heap[g]? = some (.cells cur 96 (0,0))) (hH:Go.Sort.HoldsK enc96 2 w g 0 d) (hs:d'.size = d.size):∃ cur',(sortWorldK enc96 2 w g 0 m d' os).heap[g]? = some (.cells cur' 96 (0,0)) ∧ cur'.size = cur.size ∧ LaidC cur' d'.toList ∧ Below g w (sortWorldK enc96 2 w g 0 m d' os):=by
 have hg:=blk_lt h
 have hh:=Go.Proofs.holdsK_sortWorldK_c enc96 2 w g 0 d d' m os hH hg hs
 have hb:(sortWorldK enc96 2 w g 0 m d' os).heap[g]? = some (.cells (Go.Sort.putCells id 0 (Go.Sort.flatK enc96 2 d') cur) 96 (0,0)):=by
  unfold Go.Proofs.sortWorldK Go.Sort.grow Go.Sort.putRowK Go.Sort.putRow Go.Sort.mapBlock Go.Sort.ahead
  simp only
  rw [Array.getElem?_append_left (by simpa using hg),Array.getElem?_modify,h]
  simp [Go.Sort.onCells]
 refine ⟨_,hb,by simp [Go.Sort.putCells],laid_of_holds hb hh,rfl,rfl,rfl,?_,?_⟩
 ·unfold Go.Proofs.sortWorldK Go.Sort.grow Go.Sort.putRowK Go.Sort.putRow Go.Sort.mapBlock Go.Sort.ahead
  simp only [Array.size_append,Array.size_modify]
  omega
 ·intro k hk
  unfold Go.Proofs.sortWorldK Go.Sort.grow Go.Sort.putRowK Go.Sort.putRow Go.Sort.mapBlock Go.Sort.ahead
  simp only
  rw [Array.getElem?_append_left (by simp;omega),Array.getElem?_modify,if_neg (by omega)]
end Go.Proofs.Ythpahlkhiknofaa.H
namespace Go.Proofs.Ythpahlkhiknofaa.H
open Go Go.RowKit Go.Shelf Go.Proofs.Ythpahlkhiknofaa.G Go.Proofs.Ythpahlkhiknofaa.P Go.Proofs.YthpahlkhiknofaaW.PrintWords Go.Proofs.YthpahlkhiknofaaW.PrintLast Go.Proofs.YthpahlkhiknofaaW.PrintMore
theorem two_take {cs:List Value} {j:Nat} {a b:Value} (h0:cs[j * 2]? = some a) (h1:cs[j * 2 + 1]? = some b):(cs.drop (j * 2)).take 2 = [a,b]:=by
 apply List.ext_getElem?
 intro i
 rw [List.getElem?_take,List.getElem?_drop]
 rcases i with _ | _ | i
 ·simpa using h0
 ·simpa using h1
 ·rw [if_neg (by omega)];rfl
theorem laid_R {w:World} {base g cap:Nat} {cur:Array Value} {l:List S96} (hg:base ≤ g) (hh:w.heap[g]? = some (.cells cur 96 (0,0))) (h1:l.length ≤ cap) (h2:cap ≤ 9223372036854775807) (h3:cur.size = cap * 2) (hl:LaidC cur l):Kd.R k96 96 w base (fun _=>True) (.slice (some ⟨g,0,none⟩) l.length cap) l:=by
 have hs:k96.sz = 2:=rfl
 have hlen:(cur.toList.take (l.length * 2)).length = l.length * 2:=by
  have hc:cur.toList.length = cap * 2:=by rw [Array.length_toList,h3]
  rw [List.length_take,hc];omega
 refine ⟨fun _ _=>trivial,cur.toList.take (l.length * 2),⟨hlen,.inr ⟨g,cap,cur,rfl,hg,hh,h1,h2,h3,rfl⟩⟩,hlen,fun j x hx=>?_⟩
 have hj:=(List.getElem?_eq_some_iff.1 hx).1
 obtain ⟨a,b⟩:=hl j x hx
 have e:=two_take (cs:=cur.toList.take (l.length * 2)) (j:=j) (a:=.int .i64 x.f0) (b:=.int .i64 x.f1) (by rw [List.getElem?_take,if_pos (by omega),Array.getElem?_toList];exact a) (by rw [List.getElem?_take,if_pos (by omega),Array.getElem?_toList];exact b)
 rw [hs,e]
 exact k96_mkM _ _ _ x
end Go.Proofs.Ythpahlkhiknofaa.H
