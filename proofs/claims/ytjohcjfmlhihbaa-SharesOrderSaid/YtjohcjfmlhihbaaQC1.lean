/- Several texts, joined. -/
import Derived.KernelRfl
import Derived.Test.YtjohcjfmlhihbaaQA4
set_option linter.unusedVariables false
set_option linter.unusedSimpArgs false
namespace Go.Proofs.Ytjohcjfmlhihbaa.G
open Go.RowKit Go.Proofs.YtjohcjfmlhihbaaW.PrintWords Go.Proofs.YtjohcjfmlhihbaaW.PrintLast Go.Proofs.YtjohcjfmlhihbaaW.PrintMore
set_option maxHeartbeats 8000000
set_option maxRecDepth 100000
attribute [local go_sem] cond_true cond_false fld23_0 fld23_1 fld45_0 fld45_1 fld109_0 fld109_1 fld94_0 fld94_1 max2_int min2_int max_two min_two max_three min_three max_four min_four
def numnahref07_total.l0:Nat → List Int → Int → Int → Option (Int)
 | 0,_,_,_=>none
 | k + 1,x0,x3,x4=>if x4 < (x0.length:Int) then (if 0 ≤ x4 then (numnahref07_total.l0 k x0 (wrap64 (x3 + (rd x0 x4))) (wrap64 (x4 + 1))) else (none)) else (some x3)
def numnahref07_total.f (k:Nat) (l0:List Int):Option (Int):=numnahref07_total.l0 k l0 0 0
theorem numnahref07_total.mono_l:∀ k,(∀ y0 y1 y2,LeO (numnahref07_total.l0 k y0 y1 y2) (numnahref07_total.l0 (k + 1) y0 y1 y2))
 | 0=>fun _ _ _ r h=>by simp [numnahref07_total.l0] at h
 | k + 1=>by
  have ih0:=numnahref07_total.mono_l k
  intro y0 y1 y2
  unfold numnahref07_total.l0
  repeat' first
  | (with_reducible first | exact ih0 _ _ _ | exact LeO.refl _ | exact LeO.none _ | refine LeO.ite ?_ ?_ | refine LeO.bind ?_ (fun _=>?_))
  | exact LeO.none _ | refine LeO.ite ?_ ?_ | refine LeO.bind ?_ (fun _=>?_)
theorem numnahref07_total.mono:∀ a0 k,LeO (numnahref07_total.f k a0) (numnahref07_total.f (k + 1) a0):=by
 intro a0 k
 have ih0:=numnahref07_total.mono_l k
 unfold numnahref07_total.f
 repeat' first
   | (with_reducible first | exact ih0 _ _ _ | exact LeO.refl _ | exact LeO.none _ | refine LeO.ite ?_ ?_ | refine LeO.bind ?_ (fun _=>?_))
   | exact LeO.none _ | refine LeO.ite ?_ ?_ | refine LeO.bind ?_ (fun _=>?_)
theorem numnahref07_total.calls (k:Nat) (A0:Option Addr) (c0:Nat) (l0:List Int) (r:Int) (w:World) (hr0:Kd.C (Kd.int .i64) w A0 l0.length l0) (hc0:l0.length ≤ c0) (h:numnahref07_total.f k l0 = some r) :
  Calls Try.prog 65 #[.slice A0 l0.length c0] w fun e w'=>e = .returned (.int .i64 r) ∧ Drawn0 w w':=by
 have HR0:=A_ hr0
 have HC0:=A_ hc0
 clear hr0 hc0
 have H:(numnahref07_total.l0 k l0 0 0) = some r:=h
 clear h
 have H':=A_ H
 clear H
 go_enter Try.func65,Try.ntmps65
 go_wp2
 go_loopg [3,4] k (fun kq v3 v4 w'=>∃ (x3_1:Int) (x4_1:Int),v3 = .int .i64 x3_1 ∧ v4 = .int .i64 x4_1 ∧ Aside0 (numnahref07_total.l0 kq l0 x3_1 x4_1 = some r) ∧ Aside0 (kq ≤ k) ∧ Drawn0 w w')
 case atStart=>exact ⟨(0),(0),(by first | rfl | (simp;done) | (simp [*];done)),(by first | rfl | (simp;done) | (simp [*];done)),H',⟨Nat.le_refl _⟩,by repeat (first | exact Drawn0.refl _ | apply Drawn0.step)⟩
 case round =>
  clear H'
  obtain ⟨x3_1,x4_1,rfl,rfl,HA,HK1,⟨m1,rfl⟩⟩:=hrel
  cases gk with
  | zero=>exact absurd HA.out (by simp [numnahref07_total.l0])
  | succ k1 =>
   have H:=HA.out
   clear HA
   simp only [numnahref07_total.l0] at H
   by_cases c2:x4_1 < (l0.length:Int)
   case neg =>
    rw [if_neg c2] at H
    have c2b0:=decide_eq_false c2
    clear c2
    obtain rfl:=Option.some.inj H
    go_wp2
    go_ret
    exact ⟨by first | rfl | (simp;done) | (simp [*];done),by repeat (first | exact Drawn0.refl _ | apply Drawn0.step)⟩
   rw [if_pos c2] at H
   have c2b0:=decide_eq_true c2
   clear c2
   replace H:=gd H
   obtain ⟨c3,H⟩:=H
   have c3b0:=decide_eq_true c3
   clear c3
   have H':=A_ H
   clear H
   have p220:0 ≤ (x4_1:Int):=of_decide_eq_true (by first | (with_reducible assumption) | assumption)
   have q220:x4_1 < (l0.length:Int):=of_decide_eq_true (by first | (with_reducible assumption) | assumption)
   obtain ⟨ad220,e220,hx220_0⟩:=Kd.at_int HR0.out x4_1 p220 q220
   cases e220
   replace p220:=eq_true p220
   replace q220:=eq_true q220
   go_wp2
   go_roundg k1
   case measure=>have:=HK1.out;omega
   case rel=>exact ⟨(wrap64 (x3_1 + (rd l0 x4_1))),(wrap64 (x4_1 + 1)),(by first | rfl | (simp;done) | (simp [*];done)),(by first | rfl | (simp;done) | (simp [*];done)),H',⟨by have:=HK1.out;omega⟩,by repeat (first | exact Drawn0.refl _ | apply Drawn0.step)⟩
mutual
def numnahref07_Claims.j0:Nat → List Int → Int → Bool → Option (Bool)
 | 0,_,_,_=>none
 | k + 1,x0,x1,x13=>if x13 = true then (some false) else (numnahref07_Claims.l0 k x0 x1 0)
def numnahref07_Claims.l0:Nat → List Int → Int → Int → Option (Bool)
 | 0,_,_,_=>none
 | k + 1,x0,x1,x5=>if x5 < (x0.length:Int) then (if 0 ≤ x5 then (if (rd x0 x5) < 0 then (some false) else (if (rd x0 x5) > 1000 then (some false) else (numnahref07_Claims.l0 k x0 x1 (wrap64 (x5 + 1))))) else (none)) else (if x1 ≥ 0 then ((numnahref07_total.f k x0).bind fun t223=>(some (decide (x1 ≤ t223)))) else (some false))
end
def numnahref07_Claims.f (k:Nat) (l0:List Int) (a1:Int):Option (Bool):=if (l0.length:Int) < 1 then (numnahref07_Claims.j0 k l0 a1 true) else (numnahref07_Claims.j0 k l0 a1 (decide ((l0.length:Int) > 10)))
theorem numnahref07_Claims.mono_l:∀ k,(∀ y0 y1 y2,LeO (numnahref07_Claims.j0 k y0 y1 y2) (numnahref07_Claims.j0 (k + 1) y0 y1 y2)) ∧ (∀ y0 y1 y2,LeO (numnahref07_Claims.l0 k y0 y1 y2) (numnahref07_Claims.l0 (k + 1) y0 y1 y2))
 | 0=>⟨fun _ _ _ r h=>by simp [numnahref07_Claims.j0] at h,fun _ _ _ r h=>by simp [numnahref07_Claims.l0] at h⟩
 | k + 1=>by
  obtain ⟨ih0,ih1⟩:=numnahref07_Claims.mono_l k
  refine ⟨?_,?_⟩
  ·intro y0 y1 y2
   unfold numnahref07_Claims.j0
   repeat' first
   | (with_reducible first | exact ih0 _ _ _ | exact ih1 _ _ _ | exact numnahref07_total.mono _ _ | exact LeO.refl _ | exact LeO.none _ | refine LeO.ite ?_ ?_ | refine LeO.bind ?_ (fun _=>?_))
   | exact LeO.none _ | refine LeO.ite ?_ ?_ | refine LeO.bind ?_ (fun _=>?_)
  intro y0 y1 y2
  unfold numnahref07_Claims.l0
  repeat' first
  | (with_reducible first | exact ih0 _ _ _ | exact ih1 _ _ _ | exact numnahref07_total.mono _ _ | exact LeO.refl _ | exact LeO.none _ | refine LeO.ite ?_ ?_ | refine LeO.bind ?_ (fun _=>?_))
  | exact LeO.none _ | refine LeO.ite ?_ ?_ | refine LeO.bind ?_ (fun _=>?_)
theorem numnahref07_Claims.mono:∀ a0 a1 k,LeO (numnahref07_Claims.f k a0 a1) (numnahref07_Claims.f (k + 1) a0 a1):=by
 intro a0 a1 k
 obtain ⟨ih0,ih1⟩:=numnahref07_Claims.mono_l k
 unfold numnahref07_Claims.f
 repeat' first
   | (with_reducible first | exact ih0 _ _ _ | exact ih1 _ _ _ | exact numnahref07_total.mono _ _ | exact LeO.refl _ | exact LeO.none _ | refine LeO.ite ?_ ?_ | refine LeO.bind ?_ (fun _=>?_))
   | exact LeO.none _ | refine LeO.ite ?_ ?_ | refine LeO.bind ?_ (fun _=>?_)
theorem numnahref07_Claims.calls (k:Nat) (A0:Option Addr) (c0:Nat) (l0:List Int) (a1:Int) (r:Bool) (w:World) (hr0:Kd.C (Kd.int .i64) w A0 l0.length l0) (hc0:l0.length ≤ c0) (h:numnahref07_Claims.f k l0 a1 = some r) :
  Calls Try.prog 21 #[.slice A0 l0.length c0,.int .i64 a1] w fun e w'=>e = .returned (.bool r) ∧ Drawn0 w w':=by
 have HR0:=A_ hr0
 have HC0:=A_ hc0
 clear hr0 hc0
 have H:(if (l0.length:Int) < 1 then (numnahref07_Claims.j0 k l0 a1 true) else (numnahref07_Claims.j0 k l0 a1 (decide ((l0.length:Int) > 10)))) = some r:=h
 clear h
 have HC3:=A_ H
 clear H
 go_enter Try.func21,Try.ntmps21
 go_upto_region 1 with (fail)
 go_cut [13] (fun v13 wc=>∃ (kq:Nat) (x13_2:Bool),v13 = .bool x13_2 ∧ Aside0 (numnahref07_Claims.j0 kq l0 a1 x13_2 = some r) ∧ Aside0 (kq ≤ k) ∧ Drawn0 w wc)
 case first =>
  have H:=HC3.out
  clear HC3
  by_cases c4:(l0.length:Int) < 1
  ·rw [if_pos c4] at H
   have c4b0:=decide_eq_true c4
   have c4b1:decide (l0.length < 1) = true:=decide_eq_true (by omega)
   clear c4
   (first | rw [c4b0] | (simp only [i64_w,i32_w];rw [c4b0]) | skip)
   have H':=A_ H
   clear H
   go_wp2
   go_meet
   case rel=>exact ⟨_,(true),(by first | rfl | (simp;done) | (simp [*];done)),H',⟨by first | omega | exact Nat.le_refl _⟩,by repeat (first | exact Drawn0.refl _ | apply Drawn0.step)⟩
  rw [if_neg c4] at H
  have c4b0:=decide_eq_false c4
  have c4b1:decide (l0.length < 1) = false:=decide_eq_false (by omega)
  clear c4
  (first | rw [c4b0] | (simp only [i64_w,i32_w];rw [c4b0]) | skip)
  have H':=A_ H
  clear H
  go_wp2
  go_meet
  case rel=>exact ⟨_,(decide ((l0.length:Int) > 10)),(by first | rfl | (simp;done) | (simp [*];done)),H',⟨by first | omega | exact Nat.le_refl _⟩,by repeat (first | exact Drawn0.refl _ | apply Drawn0.step)⟩
 case rest =>
  clear HC3
  obtain ⟨kq,x13_2,rfl,HA,HJ2,⟨mc2,rfl⟩⟩:=hcut
  cases kq with
  | zero=>exact absurd HA.out (by simp [numnahref07_Claims.j0])
  | succ kj2 =>
   have H:=HA.out
   clear HA
   simp only [numnahref07_Claims.j0] at H
   by_cases c5:x13_2 = true
   ·subst c5
    rw [if_pos rfl] at H
    obtain rfl:=Option.some.inj H
    go_wp2
    go_ret
    exact ⟨by first | rfl | (simp;done) | (simp [*];done),by repeat (first | exact Drawn0.refl _ | apply Drawn0.step)⟩
   replace c5:=Bool.eq_false_iff.mpr c5
   subst c5
   rw [if_neg (show ¬ (false = true) by decide)] at H
   have H':=A_ H
   clear H
   go_wp2
   go_loopg [5] kj2 (fun kq v5 w'=>∃ (x5_2:Int),v5 = .int .i64 x5_2 ∧ Aside0 (numnahref07_Claims.l0 kq l0 a1 x5_2 = some r) ∧ Aside0 (kq ≤ kj2) ∧ Drawn0 w w')
   case atStart=>exact ⟨(0),(by first | rfl | (simp;done) | (simp [*];done)),H',⟨Nat.le_refl _⟩,by repeat (first | exact Drawn0.refl _ | apply Drawn0.step)⟩
   case round =>
    clear H'
    obtain ⟨x5_2,rfl,HA,HK2,⟨m2,rfl⟩⟩:=hrel
    cases gk with
    | zero=>exact absurd HA.out (by simp [numnahref07_Claims.l0])
    | succ k2 =>
     have H:=HA.out
     clear HA
     simp only [numnahref07_Claims.l0] at H
     by_cases c6:x5_2 < (l0.length:Int)
     case neg =>
      rw [if_neg c6] at H
      have c6b0:=decide_eq_false c6
      clear c6
      by_cases c10:a1 ≥ 0
      case neg =>
       rw [if_neg c10] at H
       have c10b0:=decide_eq_false c10
       clear c10
       obtain rfl:=Option.some.inj H
       go_wp2
       go_ret
       exact ⟨by first | rfl | (simp;done) | (simp [*];done),by repeat (first | exact Drawn0.refl _ | apply Drawn0.step)⟩
      rw [if_pos c10] at H
      have c10b0:=decide_eq_true c10
      clear c10
      replace H:=Option.bind_eq_some_iff.mp H
      obtain ⟨t223,A110,H⟩:=H
      replace H:(some (decide (a1 ≤ t223))) = some r:=H
      have A11:=A_ A110
      clear A110
      obtain rfl:=Option.some.inj H
      go_wp2_with (first | (go_at_call 65;(with_reducible refine (numnahref07_total.calls k2 _ _ l0 t223 _ ?side1 ?side2 A11.out).mono ?_);(case side1=>repeat (first | exact HR0.out | (with_reducible refine Kd.C_alloc ?_ _) | (with_reducible refine Kd.C_drewN ?_ _) | (with_reducible refine Kd.C_drew ?_)));(case side2=>exact HC0.out);rintro e w' ⟨rfl,⟨nd,rfl⟩⟩))
      go_ret
      exact ⟨by first | rfl | (simp;done) | (simp [*];done),by repeat (first | exact Drawn0.refl _ | apply Drawn0.step)⟩
     rw [if_pos c6] at H
     have c6b0:=decide_eq_true c6
     clear c6
     replace H:=gd H
     obtain ⟨c7,H⟩:=H
     have c7b0:=decide_eq_true c7
     clear c7
     by_cases c8:(rd l0 x5_2) < 0
     ·rw [if_pos c8] at H
      have c8b0:=decide_eq_true c8
      clear c8
      obtain rfl:=Option.some.inj H
      have p221:0 ≤ (x5_2:Int):=of_decide_eq_true (by first | (with_reducible assumption) | assumption)
      have q221:x5_2 < (l0.length:Int):=of_decide_eq_true (by first | (with_reducible assumption) | assumption)
      obtain ⟨ad221,e221,hx221_0⟩:=Kd.at_int HR0.out x5_2 p221 q221
      cases e221
      replace p221:=eq_true p221
      replace q221:=eq_true q221
      go_wp2
      go_ret
      exact ⟨by first | rfl | (simp;done) | (simp [*];done),by repeat (first | exact Drawn0.refl _ | apply Drawn0.step)⟩
     rw [if_neg c8] at H
     have c8b0:=decide_eq_false c8
     clear c8
     by_cases c9:(rd l0 x5_2) > 1000
     ·rw [if_pos c9] at H
      have c9b0:=decide_eq_true c9
      clear c9
      obtain rfl:=Option.some.inj H
      have p221:0 ≤ (x5_2:Int):=of_decide_eq_true (by first | (with_reducible assumption) | assumption)
      have q221:x5_2 < (l0.length:Int):=of_decide_eq_true (by first | (with_reducible assumption) | assumption)
      obtain ⟨ad221,e221,hx221_0⟩:=Kd.at_int HR0.out x5_2 p221 q221
      cases e221
      replace p221:=eq_true p221
      replace q221:=eq_true q221
      have p222:0 ≤ (x5_2:Int):=of_decide_eq_true (by first | (with_reducible assumption) | assumption)
      have q222:x5_2 < (l0.length:Int):=of_decide_eq_true (by first | (with_reducible assumption) | assumption)
      obtain ⟨ad222,e222,hx222_0⟩:=Kd.at_int HR0.out x5_2 p222 q222
      obtain rfl:ad221 = ad222:=(by injection e222)
      replace p222:=eq_true p222
      replace q222:=eq_true q222
      go_wp2
      go_ret
      exact ⟨by first | rfl | (simp;done) | (simp [*];done),by repeat (first | exact Drawn0.refl _ | apply Drawn0.step)⟩
     rw [if_neg c9] at H
     have c9b0:=decide_eq_false c9
     clear c9
     have H':=A_ H
     clear H
     have p221:0 ≤ (x5_2:Int):=of_decide_eq_true (by first | (with_reducible assumption) | assumption)
     have q221:x5_2 < (l0.length:Int):=of_decide_eq_true (by first | (with_reducible assumption) | assumption)
     obtain ⟨ad221,e221,hx221_0⟩:=Kd.at_int HR0.out x5_2 p221 q221
     cases e221
     replace p221:=eq_true p221
     replace q221:=eq_true q221
     have p222:0 ≤ (x5_2:Int):=of_decide_eq_true (by first | (with_reducible assumption) | assumption)
     have q222:x5_2 < (l0.length:Int):=of_decide_eq_true (by first | (with_reducible assumption) | assumption)
     obtain ⟨ad222,e222,hx222_0⟩:=Kd.at_int HR0.out x5_2 p222 q222
     obtain rfl:ad221 = ad222:=(by injection e222)
     replace p222:=eq_true p222
     replace q222:=eq_true q222
     go_wp2
     go_roundg k2
     case measure=>have:=HJ2.out;have:=HK2.out;omega
     case rel=>exact ⟨(wrap64 (x5_2 + 1)),(by first | rfl | (simp;done) | (simp [*];done)),H',⟨by have:=HJ2.out;have:=HK2.out;omega⟩,by repeat (first | exact Drawn0.refl _ | apply Drawn0.step)⟩
end Go.Proofs.Ytjohcjfmlhihbaa.G
namespace Go.Proofs.Ytjohcjfmlhihbaa.P
open Go Go.RowKit Go.Proofs.Ytjohcjfmlhihbaa.G
open Go.Proofs.YtjohcjfmlhihbaaW.PrintWords Go.Proofs.YtjohcjfmlhihbaaW.PrintMore
theorem rd_get {l:List Int} {i:Nat} (h:i < l.length):rd l (i:Int) = l[i]:=by unfold rd;simp [h]
theorem wrap_succ {i:Nat} (h:i < 9223372036854775807):wrap64 ((i:Int) + 1) = ((i + 1:Nat):Int):=by unfold wrap64;omega
def sI (l:List Int):Int:=l.foldr (· + ·) 0
theorem sI_cons (a:Int) (l:List Int):sI (a :: l) = a + sI l:=rfl
theorem sI_append (l m:List Int):sI (l ++ m) = sI l + sI m:=by
 induction l with
 | nil=>simp [sI]
 | cons a l ih=>rw [List.cons_append,sI_cons,sI_cons,ih];omega
theorem sI_bound {l:List Int} (h:∀ x ∈ l,0 ≤ x ∧ x ≤ 1000):0 ≤ sI l ∧ sI l ≤ 1000 * (l.length:Int):=by
 induction l with
 | nil=>simp [sI]
 | cons a l ih =>
  have h1:=h a (by simp)
  have h2:=ih (fun x hx=>h x (List.mem_cons_of_mem _ hx))
  rw [sI_cons,List.length_cons]
  omega
section
variable {l:List Int} (hb:∀ x ∈ l,0 ≤ x ∧ x ≤ 1000) (hl:l.length ≤ 1000000)
include hb hl
theorem total_l0:∀ (d i:Nat),i + d = l.length → Ev (fun k=>shares_total.l0 k (sI (l.take i)) l (l.length:Int) (i:Int)) (sI l):=by
 intro d
 induction d with
 | zero =>
  intro i hi
  refine Ev.step (f:=fun _=>some (sI l)) (fun k=>?_) (Ev.now _)
  rw [shares_total.l0,if_neg (by omega),List.take_of_length_le (by omega)]
 | succ d ih =>
  intro i hi
  have hil:i < l.length:=by omega
  refine Ev.step (fun k=>?_) (ih (i + 1) (by omega))
  have h1:=(sI_bound (l:=l.take (i + 1)) (fun x hx=>hb x (List.mem_of_mem_take hx)))
  have h2:(l.take (i + 1)).length ≤ 1000000:=by rw [List.length_take];omega
  have e:sI (l.take i) + l[i] = sI (l.take (i + 1)):=by rw [List.take_succ_eq_append_getElem hil,sI_append];simp [sI]
  rw [shares_total.l0,if_pos (by omega),if_pos (by omega),if_pos (by omega),rd_get hil,e,wrap_id (by omega) (by omega),wrap_succ (by omega)]
theorem ev_total:Ev (fun k=>shares_total.f k l) (sI l):=total_l0 hb hl l.length 0 (by omega)
theorem rtotal_l0:∀ (d i:Nat),i + d = l.length → Ev (fun k=>numnahref07_total.l0 k l (sI (l.take i)) (i:Int)) (sI l):=by
 intro d
 induction d with
 | zero =>
  intro i hi
  refine Ev.step (f:=fun _=>some (sI l)) (fun k=>?_) (Ev.now _)
  rw [numnahref07_total.l0,if_neg (by omega),List.take_of_length_le (by omega)]
 | succ d ih =>
  intro i hi
  have hil:i < l.length:=by omega
  refine Ev.step (fun k=>?_) (ih (i + 1) (by omega))
  have h1:=(sI_bound (l:=l.take (i + 1)) (fun x hx=>hb x (List.mem_of_mem_take hx)))
  have h2:(l.take (i + 1)).length ≤ 1000000:=by rw [List.length_take];omega
  have e:sI (l.take i) + l[i] = sI (l.take (i + 1)):=by rw [List.take_succ_eq_append_getElem hil,sI_append];simp [sI]
  rw [numnahref07_total.l0,if_pos (by omega),if_pos (by omega),rd_get hil,e,wrap_id (by omega) (by omega),wrap_succ (by omega)]
theorem ev_rtotal:Ev (fun k=>numnahref07_total.f k l) (sI l):=rtotal_l0 hb hl l.length 0 (by omega)
end
structure IsCl (l:List Int):Prop where
 one:1 ≤ l.length
 ten:l.length ≤ 10
 mem:∀ x ∈ l,0 ≤ x ∧ x ≤ 1000
instance (l:List Int):Decidable (IsCl l):=decidable_of_iff (1 ≤ l.length ∧ l.length ≤ 10 ∧ ∀ x ∈ l,0 ≤ x ∧ x ≤ 1000) ⟨fun h=>⟨h.1,h.2.1,h.2.2⟩,fun h=>⟨h.1,h.2,h.3⟩⟩
def clB (l:List Int) (e:Int):Bool:=decide (IsCl l ∧ 0 ≤ e ∧ e ≤ sI l)
theorem areClaims_eq {l:List Int} (hf:H.fitL l):shares_areClaims.f l = some (decide (IsCl l)):=by
 unfold shares_areClaims.f shares_within.f contains119.f
 rw [if_pos hf]
 simp only [Option.bind_some]
 by_cases h1:(l.length:Int) ≥ 1
 ·rw [if_pos h1]
  simp only [Option.bind_some]
  by_cases h2:(l.length:Int) ≤ 10
  ·rw [if_pos (decide_eq_true h2)]
   congr 1
   by_cases h3:∀ x ∈ l,0 ≤ x ∧ x ≤ 1000
   ·rw [decide_eq_true (⟨by omega,by omega,h3⟩:IsCl l)]
    rw [Bool.not_eq_true',List.any_eq_false]
    intro x hx
    simpa using h3 x hx
   ·rw [decide_eq_false (fun h:IsCl l=>h3 h.mem)]
    rw [Bool.not_eq_false',List.any_eq_true]
    apply Classical.byContradiction
    intro hno
    refine h3 fun x hx=>Classical.byContradiction fun hx2=>hno ⟨x,hx,?_⟩
    rw [Bool.not_eq_true',decide_eq_false_iff_not]
    exact hx2
  ·rw [if_neg (by simpa using h2),decide_eq_false (fun h:IsCl l=>h2 (by have:=h.ten;omega))]
 ·rw [if_neg h1]
  simp only [Option.bind_some]
  rw [if_neg (by decide),decide_eq_false (fun h:IsCl l=>h1 (by have:=h.one;omega))]
theorem ev_newClaims {l:List Int} (hf:H.fitL l) (e:Int):Ev (fun k=>newClaimsR.f k l e) (clB l e):=by
 unfold newClaimsR.f shares_newClaims.f
 rw [areClaims_eq hf]
 simp only [Option.bind_some]
 unfold clB
 by_cases h:IsCl l
 ·simp only [h,decide_true,if_true,true_and]
  obtain ⟨K,hK⟩:=ev_total h.mem (by have:=h.ten;omega)
  refine ⟨K,fun k hk=>?_⟩
  have hk':shares_total.f k l = some (sI l):=hK k hk
  show Option.map _ _ = _
  rw [hk']
  simp only [Option.bind_some,shares_within.f]
  by_cases h0:e ≥ 0
  ·rw [if_pos h0]
   simp only [Option.bind_some,Option.map_some]
   congr 1
   rw [Bool.eq_iff_iff,decide_eq_true_iff,decide_eq_true_iff]
   exact ⟨fun k=>⟨h0,k⟩,fun k=>k.2⟩
  ·rw [if_neg h0]
   simp only [Option.bind_some,Option.map_some]
   rw [decide_eq_false (fun k=>h0 k.1)]
 ·refine ⟨0,fun k _=>?_⟩
  simp [h]
theorem rclaims_l0 {l:List Int} (hl:1 ≤ l.length ∧ l.length ≤ 10) (e:Int):∀ (d i:Nat),i + d = l.length → (∀ x ∈ l.take i,0 ≤ x ∧ x ≤ 1000) → Ev (fun k=>numnahref07_Claims.l0 k l e (i:Int)) (clB l e):=by
 intro d
 induction d with
 | zero =>
  intro i hi hm
  rw [List.take_of_length_le (by omega)] at hm
  have hc:IsCl l:=⟨hl.1,hl.2,hm⟩
  unfold clB
  simp only [hc,true_and]
  by_cases h0:e ≥ 0
  ·refine Ev.step (f:=fun k=>(numnahref07_total.f k l).bind fun t=>some (decide (e ≤ t))) (fun k=>?_) (Ev.bind (ev_rtotal hm (by omega)) ?_)
   ·rw [numnahref07_Claims.l0,if_neg (by omega),if_pos h0]
   ·have:decide (0 ≤ e ∧ e ≤ sI l) = decide (e ≤ sI l):=by
     rw [Bool.eq_iff_iff,decide_eq_true_iff,decide_eq_true_iff]
     exact ⟨fun k=>k.2,fun k=>⟨h0,k⟩⟩
    rw [this]
    exact Ev.now _
  ·refine Ev.step (f:=fun _=>some false) (fun k=>?_) ?_
   ·rw [numnahref07_Claims.l0,if_neg (by omega),if_neg h0]
   ·rw [decide_eq_false (fun k=>h0 k.1)]
    exact Ev.now _
 | succ d ih =>
  intro i hi hm
  have hil:i < l.length:=by omega
  by_cases g:0 ≤ l[i] ∧ l[i] ≤ 1000
  ·refine Ev.step (fun k=>?_) (ih (i + 1) (by omega) (fun x hx=>?_))
   ·rw [numnahref07_Claims.l0,if_pos (by omega),if_pos (by omega),rd_get hil,if_neg (by omega),if_neg (by omega),wrap_succ (by omega)]
   ·rw [List.take_succ_eq_append_getElem hil,List.mem_append] at hx
    rcases hx with hx | hx
    ·exact hm x hx
    ·rw [List.mem_singleton] at hx
     rw [hx];exact g
  ·have hc:clB l e = false:=decide_eq_false (fun h=>g (h.1.mem _ (List.getElem_mem hil)))
   rw [hc]
   refine Ev.step (f:=fun _=>some false) (fun k=>?_) (Ev.now _)
   rw [numnahref07_Claims.l0,if_pos (by omega),if_pos (by omega),rd_get hil]
   by_cases g1:l[i] < 0
   ·rw [if_pos g1]
   ·rw [if_neg g1,if_pos (by omega)]
theorem ev_rclaims (l:List Int) (e:Int):Ev (fun k=>numnahref07_Claims.f k l e) (clB l e):=by
 unfold numnahref07_Claims.f
 by_cases h1:(l.length:Int) < 1
 ·simp only [if_pos h1]
  have hc:clB l e = false:=decide_eq_false (fun h=>by have:=h.1.one;omega)
  rw [hc]
  exact Ev.step (f:=fun _=>some false) (fun k=>by rw [numnahref07_Claims.j0,if_pos rfl]) (Ev.now _)
 ·simp only [if_neg h1]
  by_cases h2:(l.length:Int) > 10
  ·have hc:clB l e = false:=decide_eq_false (fun h=>by have:=h.1.ten;omega)
   rw [hc,decide_eq_true h2]
   exact Ev.step (f:=fun _=>some false) (fun k=>by rw [numnahref07_Claims.j0,if_pos rfl]) (Ev.now _)
  ·rw [decide_eq_false h2]
   refine Ev.step (fun k=>by rw [numnahref07_Claims.j0,if_neg (by decide)];rfl) (rclaims_l0 (by omega) e l.length 0 (by omega) (by simp))
end Go.Proofs.Ytjohcjfmlhihbaa.P
namespace Go.Proofs.Ytjohcjfmlhihbaa.G
open Go.RowKit Go.Proofs.YtjohcjfmlhihbaaW.PrintWords Go.Proofs.YtjohcjfmlhihbaaW.PrintLast Go.Proofs.YtjohcjfmlhihbaaW.PrintMore
set_option maxHeartbeats 8000000
set_option maxRecDepth 100000
attribute [local go_sem] cond_true cond_false fld23_0 fld23_1 fld45_0 fld45_1 fld109_0 fld109_1 fld94_0 fld94_1 max2_int min2_int max_two min_two max_three min_three max_four min_four
def numnahref07_rest.f (k:Nat) (a0_0:Int) (a0_1:Int) (a1:Int):Option (Int × Int):=(numnahref07_Whole.f a1).bind fun bt385=>((numnahref07_Less.f bt385.1 bt385.2 a0_0 a0_1).bind fun t387=>(if t387 = true then ((numnahref07_Whole.f a1).bind fun bt388=>((numnahref07_Sub.f k a0_0 a0_1 bt388.1 bt388.2).bind fun bt390=>(some (bt390.1,bt390.2)))) else ((numnahref07_Whole.f 0).bind fun bt392=>(some (bt392.1,bt392.2)))))
theorem numnahref07_rest.mono:∀ a0 a1 a2 k,LeO (numnahref07_rest.f k a0 a1 a2) (numnahref07_rest.f (k + 1) a0 a1 a2):=by
 intro a0 a1 a2 k
 unfold numnahref07_rest.f
 repeat' first
   | (with_reducible first | exact numnahref07_Sub.mono _ _ _ _ _ | exact LeO.refl _ | exact LeO.none _ | refine LeO.ite ?_ ?_ | refine LeO.bind ?_ (fun _=>?_))
   | exact LeO.none _ | refine LeO.ite ?_ ?_ | refine LeO.bind ?_ (fun _=>?_)
theorem numnahref07_rest.calls (k:Nat) (a0_0:Int) (a0_1:Int) (a1:Int) (r1:Int) (r2:Int) (w:World) (h:numnahref07_rest.f k a0_0 a0_1 a1 = some (r1,r2)) :
  Calls Try.prog 66 #[.agg #[.int .i64 a0_0,.int .i64 a0_1],.int .i64 a1] w fun e w'=>e = .returned (.agg #[.int .i64 r1,.int .i64 r2]) ∧ Below w.heap.size w w':=by
 have hu23:=Try.underlying23
 have HB:=A_ (Below.refl w.heap.size w)
 have H:((numnahref07_Whole.f a1).bind fun bt385=>((numnahref07_Less.f bt385.1 bt385.2 a0_0 a0_1).bind fun t387=>(if t387 = true then ((numnahref07_Whole.f a1).bind fun bt388=>((numnahref07_Sub.f k a0_0 a0_1 bt388.1 bt388.2).bind fun bt390=>(some (bt390.1,bt390.2)))) else ((numnahref07_Whole.f 0).bind fun bt392=>(some (bt392.1,bt392.2)))))) = some (r1,r2):=h
 clear h
 replace H:=Option.bind_eq_some_iff.mp H
 obtain ⟨⟨t385,t386⟩,A30,H⟩:=H
 dsimp only at H
 have A3:=A_ A30
 clear A30
 replace H:=Option.bind_eq_some_iff.mp H
 obtain ⟨t387,A40,H⟩:=H
 replace H:(if t387 = true then ((numnahref07_Whole.f a1).bind fun bt388=>((numnahref07_Sub.f k a0_0 a0_1 bt388.1 bt388.2).bind fun bt390=>(some (bt390.1,bt390.2)))) else ((numnahref07_Whole.f 0).bind fun bt392=>(some (bt392.1,bt392.2)))) = some (r1,r2):=H
 have A4:=A_ A40
 clear A40
 by_cases c5:t387 = true
 case neg =>
  replace c5:=Bool.eq_false_iff.mpr c5
  subst c5
  rw [if_neg (show ¬ (false = true) by decide)] at H
  replace H:=Option.bind_eq_some_iff.mp H
  obtain ⟨⟨t392,t393⟩,A180,H⟩:=H
  dsimp only at H
  have A18:=A_ A180
  clear A180
  simp only [Option.some.injEq,Prod.mk.injEq] at H
  obtain ⟨rfl,rfl⟩:=H
  go_enter Try.func66,Try.ntmps66
  try go_wp2_with (first | ((with_reducible refine gate_dst (N:=2) rfl ?_);refine bx 2 #[.int .i64 a0_0,.int .i64 a0_1] 23 ?_;intro gb383 hg w19 hbox hb;have BK383:=A_ hbox;have GW383:=gw hg HB;have GE383:=GW383;replace HB:=bB HB hb;clear hb hbox hg) | ((with_reducible refine gate_dst (N:=4) rfl ?_);refine bx 4 #[.int .i64 0,.int .i64 0] 23 ?_;intro gb384 hg w20 hbox hb;have BK384:=A_ hbox;have GW384:=gw hg HB;have GE384:=GW384;have NB383_384:=nl hg BK383;have NB384_383:=ng hg BK383;replace BK383:=kB BK383 hb;replace HB:=bB HB hb;clear hb hbox hg))
  replace BK383:=kD BK383
  replace BK384:=kD BK384
  replace HB:=bD HB
  refine start_ (n:=4) (S:=fun w'=>w'.cell? ⟨gb383,0,none⟩ = some (.int .i64 a0_0) ∧ w'.cell? ⟨gb383,1,none⟩ = some (.int .i64 a0_1)) (ds:=[]) (ba 4 0) (by kernel_rfl) rfl rfl ⟨cz BK383 0,cz BK383 1⟩ (fun hHeld=>?_)
  generalize w20.drew = w21 at BK383 BK384 HB hHeld ⊢
  refine pr 0 5 1 ?_
  refine tr 2 7 5 hHeld ?_
  refine os 1 6 7 (fun K hK=>?_)
  refine gq Try.func23 #[.int .i64 a1] ?_
  with_reducible refine (numnahref07_Whole.calls a1 t385 t386 _ A3.out).mono ?_
  rintro e w22 ⟨rfl,hb⟩
  refine ⟨_,rfl,?_⟩
  replace BK383:=kB BK383 hb
  replace BK384:=kB BK384 hb
  replace HB:=bB HB hb
  (try clear hb)
  refine hz hK (fun hHeld=>?_)
  clear hK K
  refine nq 6 ?_
  refine os 3 8 15 (fun K hK=>?_)
  refine gq Try.func30 #[.agg #[.int .i64 t385,.int .i64 t386],.agg #[.int .i64 a0_0,.int .i64 a0_1]] ?_
  with_reducible refine (numnahref07_Less.calls t385 t386 a0_0 a0_1 false _ A4.out).mono ?_
  rintro e w23 ⟨rfl,hb⟩
  refine ⟨_,rfl,?_⟩
  replace BK383:=kB BK383 hb
  replace BK384:=kB BK384 hb
  replace HB:=bB HB hb
  (try clear hb)
  refine hz hK (fun hHeld=>?_)
  clear hK K
  refine nq 8 ?_
  refine done_ (by kernel_rfl) ?_
  try go_wp2_with (first | ((with_reducible refine gate_callee (f:=23) rfl ?_);refine gL (some 13) Try.func23 #[.int .i64 0] ?_;(with_reducible refine (numnahref07_Whole.calls 0 t392 t393 _ A18.out).mono ?_);rintro e w24 ⟨rfl,hb⟩;refine ⟨_,rfl,?_⟩;replace BK383:=kB BK383 hb;replace BK384:=kB BK384 hb;replace HB:=bB HB hb;(try clear hb);have hnb25:=NB384_383.out;have hnc25:=NB383_384.out;have hcz26_0:w24.cell? ⟨gb384,0,none⟩ = some (.int .i64 0):=cz BK384 0;have hcz26_1:w24.cell? ⟨gb384,1,none⟩ = some (.int .i64 0):=cz BK384 1;have hfz26_0:=blk_frozen BK384.out 0;have hfz26_1:=blk_frozen BK384.out 1))
  refine bodyPost_ret (results_cell_row rfl _ _ gb384 23 #[.int .i64 t392,.int .i64 t393] (0,0) _ rfl (by (with_reducible repeat (first | refine blk_drewN ?_ _ | refine blk_drew ?_ | refine blk_alloc ?_ _));refine blk_put (cs:=#[.int .i64 t392,.int .i64 0]) ?_ 1 _ rfl;(with_reducible repeat (first | refine blk_drewN ?_ _ | refine blk_drew ?_ | refine blk_alloc ?_ _));refine blk_put (cs:=#[.int .i64 0,.int .i64 0]) ?_ 0 _ rfl;(with_reducible repeat (first | refine blk_drewN ?_ _ | refine blk_drew ?_ | refine blk_alloc ?_ _));exact BK384.out) Try.underlying23 rfl (by kernel_rfl)) rfl ?_
  exact ⟨rfl,bl HB⟩
 subst c5
 rw [if_pos rfl] at H
 replace H:=Option.bind_eq_some_iff.mp H
 obtain ⟨⟨t388,t389⟩,A60,H⟩:=H
 dsimp only at H
 have A6:=A_ A60
 clear A60
 replace H:=Option.bind_eq_some_iff.mp H
 obtain ⟨⟨t390,t391⟩,A70,H⟩:=H
 dsimp only at H
 have A7:=A_ A70
 clear A70
 simp only [Option.some.injEq,Prod.mk.injEq] at H
 obtain ⟨rfl,rfl⟩:=H
 go_enter Try.func66,Try.ntmps66
 try go_wp2_with (first | ((with_reducible refine gate_dst (N:=2) rfl ?_);refine bx 2 #[.int .i64 a0_0,.int .i64 a0_1] 23 ?_;intro gb383 hg w8 hbox hb;have BK383:=A_ hbox;have GW383:=gw hg HB;have GE383:=GW383;replace HB:=bB HB hb;clear hb hbox hg) | ((with_reducible refine gate_dst (N:=4) rfl ?_);refine bx 4 #[.int .i64 0,.int .i64 0] 23 ?_;intro gb384 hg w9 hbox hb;have BK384:=A_ hbox;have GW384:=gw hg HB;have GE384:=GW384;have NB383_384:=nl hg BK383;have NB384_383:=ng hg BK383;replace BK383:=kB BK383 hb;replace HB:=bB HB hb;clear hb hbox hg))
 replace BK383:=kD BK383
 replace BK384:=kD BK384
 replace HB:=bD HB
 refine start_ (n:=4) (S:=fun w'=>w'.cell? ⟨gb383,0,none⟩ = some (.int .i64 a0_0) ∧ w'.cell? ⟨gb383,1,none⟩ = some (.int .i64 a0_1)) (ds:=[]) (ba 4 0) (by kernel_rfl) rfl rfl ⟨cz BK383 0,cz BK383 1⟩ (fun hHeld=>?_)
 generalize w9.drew = w10 at BK383 BK384 HB hHeld ⊢
 refine pr 0 5 1 ?_
 refine tr 2 7 5 hHeld ?_
 refine os 1 6 7 (fun K hK=>?_)
 refine gq Try.func23 #[.int .i64 a1] ?_
 with_reducible refine (numnahref07_Whole.calls a1 t385 t386 _ A3.out).mono ?_
 rintro e w11 ⟨rfl,hb⟩
 refine ⟨_,rfl,?_⟩
 replace BK383:=kB BK383 hb
 replace BK384:=kB BK384 hb
 replace HB:=bB HB hb
 (try clear hb)
 refine hz hK (fun hHeld=>?_)
 clear hK K
 refine nq 6 ?_
 refine os 3 8 15 (fun K hK=>?_)
 refine gq Try.func30 #[.agg #[.int .i64 t385,.int .i64 t386],.agg #[.int .i64 a0_0,.int .i64 a0_1]] ?_
 with_reducible refine (numnahref07_Less.calls t385 t386 a0_0 a0_1 true _ A4.out).mono ?_
 rintro e w12 ⟨rfl,hb⟩
 refine ⟨_,rfl,?_⟩
 replace BK383:=kB BK383 hb
 replace BK384:=kB BK384 hb
 replace HB:=bB HB hb
 (try clear hb)
 refine hz hK (fun hHeld=>?_)
 clear hK K
 refine nq 8 ?_
 refine done_ (by kernel_rfl) ?_
 try go_wp2
 replace BK383:=kD BK383
 replace BK384:=kD BK384
 replace HB:=bD HB
 refine start_ (n:=5) (S:=fun w'=>w'.cell? ⟨gb383,0,none⟩ = some (.int .i64 a0_0) ∧ w'.cell? ⟨gb383,1,none⟩ = some (.int .i64 a0_1)) (ds:=[]) (ba 5 0) (by kernel_rfl) rfl rfl ⟨cz BK383 0,cz BK383 1⟩ (fun hHeld=>?_)
 generalize w12.drew = w13 at BK383 BK384 HB hHeld ⊢
 refine pr 1 10 2 ?_
 refine tr 0 9 3 hHeld ?_
 refine os 2 11 7 (fun K hK=>?_)
 refine gq Try.func23 #[.int .i64 a1] ?_
 with_reducible refine (numnahref07_Whole.calls a1 t388 t389 _ A6.out).mono ?_
 rintro e w14 ⟨rfl,hb⟩
 refine ⟨_,rfl,?_⟩
 replace BK383:=kB BK383 hb
 replace BK384:=kB BK384 hb
 replace HB:=bB HB hb
 (try clear hb)
 refine hz hK (fun hHeld=>?_)
 clear hK K
 refine nq 11 ?_
 refine os 3 12 15 (fun K hK=>?_)
 refine gq Try.func31 #[.agg #[.int .i64 a0_0,.int .i64 a0_1],.agg #[.int .i64 t388,.int .i64 t389]] ?_
 with_reducible refine (numnahref07_Sub.calls k a0_0 a0_1 t388 t389 t390 t391 _ A7.out).mono ?_
 rintro e w15 ⟨rfl,hb⟩
 refine ⟨_,rfl,?_⟩
 replace BK383:=kB BK383 hb
 replace BK384:=kB BK384 hb
 replace HB:=bB HB hb
 (try clear hb)
 refine hz hK (fun hHeld=>?_)
 clear hK K
 refine nq 12 ?_
 refine one_ (i:=4) (N:=none) (ba 5 31) rfl rfl (by kernel_rfl) (by decide) (fun K hK=>?_)
 have hs16:w15.cell? ⟨gb384,0,none⟩ = some (.int .i64 0):=cz BK384 0
 have hfs16:=blk_frozen BK384.out 0
 have hns16_0:=NB383_384.out
 have hms16_0:=NB384_383.out
 have hs17:w15.cell? ⟨gb384,1,none⟩ = some (.int .i64 0):=cz BK384 1
 have hfs17:=blk_frozen BK384.out 1
 have hns17_0:=NB383_384.out
 have hms17_0:=NB384_383.out
 refine skip_ (w1:=?_) (by rfl) rfl ?_ ?_
 rotate_left
 ·go_simp
  rfl
 refine hK.out _ _ ⟨((cell_far (p:=⟨gb384,_,none⟩) NB383_384.out _).trans (((cell_far (p:=⟨gb384,_,none⟩) NB383_384.out _).trans (hHeld.1)))),((cell_far (p:=⟨gb384,_,none⟩) NB383_384.out _).trans (((cell_far (p:=⟨gb384,_,none⟩) NB383_384.out _).trans (hHeld.2))))⟩ (fun hHeld=>?_)
 clear hK K
 refine done_ (by kernel_rfl) ?_
 try go_wp2
 refine bodyPost_ret (results_cell_row rfl _ _ gb384 23 #[.int .i64 t390,.int .i64 t391] (0,0) _ rfl (by (with_reducible repeat (first | refine blk_drewN ?_ _ | refine blk_drew ?_ | refine blk_alloc ?_ _));refine blk_put (cs:=#[.int .i64 t390,.int .i64 0]) ?_ 1 _ rfl;(with_reducible repeat (first | refine blk_drewN ?_ _ | refine blk_drew ?_ | refine blk_alloc ?_ _));refine blk_put (cs:=#[.int .i64 0,.int .i64 0]) ?_ 0 _ rfl;(with_reducible repeat (first | refine blk_drewN ?_ _ | refine blk_drew ?_ | refine blk_alloc ?_ _));exact BK384.out) Try.underlying23 rfl (by kernel_rfl)) rfl ?_
 exact ⟨rfl,bl HB⟩
def numnahref07_Garment.f (k:Nat) (a0_0:Int) (a0_1:Int) (a1:Int) (a2:Int):Option (Int × Int):=(numnahref07_rest.f k a0_0 a0_1 a2).bind fun bt400=>((numnahref07_rest.f k a0_0 a0_1 a1).bind fun bt402=>((numnahref07_Sub.f k a0_0 a0_1 bt400.1 bt400.2).bind fun bt406=>((numnahref07_Sub.f k bt406.1 bt406.2 bt402.1 bt402.2).bind fun bt408=>((numnahref07_Half.f k bt408.1 bt408.2).bind fun bt410=>((numnahref07_Add.f k bt400.1 bt400.2 bt410.1 bt410.2).bind fun bt412=>(some (bt412.1,bt412.2)))))))
theorem numnahref07_Garment.mono:∀ a0 a1 a2 a3 k,LeO (numnahref07_Garment.f k a0 a1 a2 a3) (numnahref07_Garment.f (k + 1) a0 a1 a2 a3):=by
 intro a0 a1 a2 a3 k
 unfold numnahref07_Garment.f
 repeat' first
   | (with_reducible first | exact numnahref07_Add.mono _ _ _ _ _ | exact numnahref07_Half.mono _ _ _ | exact numnahref07_Sub.mono _ _ _ _ _ | exact numnahref07_rest.mono _ _ _ _ | exact LeO.refl _ | exact LeO.none _ | refine LeO.ite ?_ ?_ | refine LeO.bind ?_ (fun _=>?_))
   | exact LeO.none _ | refine LeO.ite ?_ ?_ | refine LeO.bind ?_ (fun _=>?_)
def numnahref07_Garment.T1:Bool × List (List Nat × List Nat):=(true,[([],[]),([],[]),([0,1],[0,1]),([],[]),([],[]),([3,4,2],[3,4]),([],[]),([],[]),([6,2,5,0,1,2,6,7],[2,6]),([7,5,8,0,1,2,3,4,5,6,7,8],[5,7])])
def numnahref07_Garment.B1:List Nat:=[0,0,3,0,0,31,0,0,255,511]
theorem numnahref07_Garment.tab1:rtab .any (opsOf Try.f24 1) = numnahref07_Garment.T1:=by kernel_rfl
theorem numnahref07_Garment.bits1:waitsOk numnahref07_Garment.T1.2 numnahref07_Garment.B1 = true:=by kernel_rfl
def numnahref07_Garment.T2:Bool × List (List Nat × List Nat):=(true,[([],[]),([],[]),([],[]),([1,2],[1,2]),([],[]),([3,4,3],[3,4]),([5,5],[5]),([0,6,6],[0,6]),([7,7,0,1,2,3,4,5,6,7],[7])])
def numnahref07_Garment.B2:List Nat:=[0,0,0,6,0,30,62,127,255]
theorem numnahref07_Garment.tab2:rtab .any (opsOf Try.f24 2) = numnahref07_Garment.T2:=by kernel_rfl
theorem numnahref07_Garment.bits2:waitsOk numnahref07_Garment.T2.2 numnahref07_Garment.B2 = true:=by kernel_rfl
theorem numnahref07_Garment.calls (k:Nat) (a0_0:Int) (a0_1:Int) (a1:Int) (a2:Int) (r1:Int) (r2:Int) (w:World) (h:numnahref07_Garment.f k a0_0 a0_1 a1 a2 = some (r1,r2)) :
  Calls Try.prog 24 #[.agg #[.int .i64 a0_0,.int .i64 a0_1],.int .i64 a1,.int .i64 a2] w fun e w'=>e = .returned (.agg #[.int .i64 r1,.int .i64 r2]) ∧ Below w.heap.size w w':=by
 have hu23:=Try.underlying23
 have HB:=A_ (Below.refl w.heap.size w)
 have H:((numnahref07_rest.f k a0_0 a0_1 a2).bind fun bt400=>((numnahref07_rest.f k a0_0 a0_1 a1).bind fun bt402=>((numnahref07_Sub.f k a0_0 a0_1 bt400.1 bt400.2).bind fun bt406=>((numnahref07_Sub.f k bt406.1 bt406.2 bt402.1 bt402.2).bind fun bt408=>((numnahref07_Half.f k bt408.1 bt408.2).bind fun bt410=>((numnahref07_Add.f k bt400.1 bt400.2 bt410.1 bt410.2).bind fun bt412=>(some (bt412.1,bt412.2)))))))) = some (r1,r2):=h
 clear h
 replace H:=Option.bind_eq_some_iff.mp H
 obtain ⟨⟨t400,t401⟩,A40,H⟩:=H
 dsimp only at H
 have A4:=A_ A40
 clear A40
 replace H:=Option.bind_eq_some_iff.mp H
 obtain ⟨⟨t402,t403⟩,A50,H⟩:=H
 dsimp only at H
 have A5:=A_ A50
 clear A50
 replace H:=Option.bind_eq_some_iff.mp H
 obtain ⟨⟨t406,t407⟩,A60,H⟩:=H
 dsimp only at H
 have A6:=A_ A60
 clear A60
 replace H:=Option.bind_eq_some_iff.mp H
 obtain ⟨⟨t408,t409⟩,A70,H⟩:=H
 dsimp only at H
 have A7:=A_ A70
 clear A70
 replace H:=Option.bind_eq_some_iff.mp H
 obtain ⟨⟨t410,t411⟩,A80,H⟩:=H
 dsimp only at H
 have A8:=A_ A80
 clear A80
 replace H:=Option.bind_eq_some_iff.mp H
 obtain ⟨⟨t412,t413⟩,A90,H⟩:=H
 dsimp only at H
 have A9:=A_ A90
 clear A90
 simp only [Option.some.injEq,Prod.mk.injEq] at H
 obtain ⟨rfl,rfl⟩:=H
 go_enter Try.func24,Try.ntmps24
 try go_wp2_with (first | ((with_reducible refine gate_dst (N:=3) rfl ?_);refine bx 3 #[.int .i64 a0_0,.int .i64 a0_1] 23 ?_;intro gb398 hg w10 hbox hb;have BK398:=A_ hbox;have GW398:=gw hg HB;have GE398:=GW398;replace HB:=bB HB hb;clear hb hbox hg) | ((with_reducible refine gate_dst (N:=6) rfl ?_);refine bx 6 #[.int .i64 0,.int .i64 0] 23 ?_;intro gb399 hg w11 hbox hb;have BK399:=A_ hbox;have GW399:=gw hg HB;have GE399:=GW399;have NB398_399:=nl hg BK398;have NB399_398:=ng hg BK398;replace BK398:=kB BK398 hb;replace HB:=bB HB hb;clear hb hbox hg))
 replace BK398:=kD BK398
 replace BK399:=kD BK399
 replace HB:=bD HB
 refine st 10 (fun w'=>w'.cell? ⟨gb398,0,none⟩ = some (.int .i64 a0_0) ∧ w'.cell? ⟨gb398,1,none⟩ = some (.int .i64 a0_1)) [] numnahref07_Garment.tab1 numnahref07_Garment.bits1 (fun hHeld HT_ HW_=>?_)
 generalize w11.drew = w12 at BK398 BK399 HB hHeld ⊢
 refine pq 1 10 2 HT_ ?_
 refine pq 4 13 18 HT_ ?_
 refine tq 0 9 19 HT_ HW_ hHeld ?_
 refine tq 3 12 27 HT_ HW_ hHeld ?_
 refine join_ (σ:=Nat × Nat) 2 (ba 10 255) (fun s_=>[(11,.agg #[.int .i64 t400,.int .i64 t401]),(14,.agg #[.int .i64 t402,.int .i64 t403]),(7,.pointer (some ⟨s_.1,0,none⟩)),(8,.pointer (some ⟨s_.2,0,none⟩))]) (fun s_ w'=>(w'.cell? ⟨gb398,0,none⟩ = some (.int .i64 a0_0) ∧ w'.cell? ⟨gb398,1,none⟩ = some (.int .i64 a0_1)) ∧ (w'.heap[gb398]? = some (.cells #[.int .i64 a0_0,.int .i64 a0_1] 23 (0,0))) ∧ (w'.heap[gb399]? = some (.cells #[.int .i64 0,.int .i64 0] 23 (0,0))) ∧ (w'.heap[s_.1]? = some (.cells #[.int .i64 0,.int .i64 0] 23 (0,0))) ∧ (w'.heap[s_.2]? = some (.cells #[.int .i64 0,.int .i64 0] 23 (0,0))) ∧ (w.heap.size ≤ s_.1) ∧ (w.heap.size ≤ s_.1) ∧ (gb398 ≠ s_.1) ∧ (s_.1 ≠ gb398) ∧ (gb399 ≠ s_.1) ∧ (s_.1 ≠ gb399) ∧ (s_.2 ≠ s_.1) ∧ (s_.1 ≠ s_.2) ∧ (w.heap.size ≤ s_.2) ∧ (w.heap.size ≤ s_.2) ∧ (gb398 ≠ s_.2) ∧ (s_.2 ≠ gb398) ∧ (gb399 ≠ s_.2) ∧ (s_.2 ≠ gb399) ∧ (Below w.heap.size w w')) ?_ ?_
 rotate_left
 ·intro hJ2_5_6_7
  refine join_ (σ:=Nat) 3 (ba 10 127) (fun s_=>[(11,.agg #[.int .i64 t400,.int .i64 t401]),(14,.agg #[.int .i64 t402,.int .i64 t403]),(7,.pointer (some ⟨s_,0,none⟩))]) (fun s_ w'=>(w'.cell? ⟨gb398,0,none⟩ = some (.int .i64 a0_0) ∧ w'.cell? ⟨gb398,1,none⟩ = some (.int .i64 a0_1)) ∧ (w'.heap[gb398]? = some (.cells #[.int .i64 a0_0,.int .i64 a0_1] 23 (0,0))) ∧ (w'.heap[gb399]? = some (.cells #[.int .i64 0,.int .i64 0] 23 (0,0))) ∧ (w'.heap[s_]? = some (.cells #[.int .i64 0,.int .i64 0] 23 (0,0))) ∧ (w.heap.size ≤ s_) ∧ (w.heap.size ≤ s_) ∧ (gb398 ≠ s_) ∧ (s_ ≠ gb398) ∧ (gb399 ≠ s_) ∧ (s_ ≠ gb399) ∧ (Below w.heap.size w w')) ?_ ?_
  rotate_left
  ·intro hJ2_5_6
   refine join_ (σ:=Nat) 3 (ba 10 191) (fun s_=>[(11,.agg #[.int .i64 t400,.int .i64 t401]),(14,.agg #[.int .i64 t402,.int .i64 t403]),(8,.pointer (some ⟨s_,0,none⟩))]) (fun s_ w'=>(w'.cell? ⟨gb398,0,none⟩ = some (.int .i64 a0_0) ∧ w'.cell? ⟨gb398,1,none⟩ = some (.int .i64 a0_1)) ∧ (w'.heap[gb398]? = some (.cells #[.int .i64 a0_0,.int .i64 a0_1] 23 (0,0))) ∧ (w'.heap[gb399]? = some (.cells #[.int .i64 0,.int .i64 0] 23 (0,0))) ∧ (w'.heap[s_]? = some (.cells #[.int .i64 0,.int .i64 0] 23 (0,0))) ∧ (w.heap.size ≤ s_) ∧ (w.heap.size ≤ s_) ∧ (gb398 ≠ s_) ∧ (s_ ≠ gb398) ∧ (gb399 ≠ s_) ∧ (s_ ≠ gb399) ∧ (Below w.heap.size w w')) ?_ ?_
   rotate_left
   ·intro hJ2_5_7
    refine join_ (σ:=Nat × Nat) 3 (ba 10 223) (fun s_=>[(11,.agg #[.int .i64 t400,.int .i64 t401]),(7,.pointer (some ⟨s_.1,0,none⟩)),(8,.pointer (some ⟨s_.2,0,none⟩))]) (fun s_ w'=>(w'.cell? ⟨gb398,0,none⟩ = some (.int .i64 a0_0) ∧ w'.cell? ⟨gb398,1,none⟩ = some (.int .i64 a0_1)) ∧ (w'.heap[gb398]? = some (.cells #[.int .i64 a0_0,.int .i64 a0_1] 23 (0,0))) ∧ (w'.heap[gb399]? = some (.cells #[.int .i64 0,.int .i64 0] 23 (0,0))) ∧ (w'.heap[s_.1]? = some (.cells #[.int .i64 0,.int .i64 0] 23 (0,0))) ∧ (w'.heap[s_.2]? = some (.cells #[.int .i64 0,.int .i64 0] 23 (0,0))) ∧ (w.heap.size ≤ s_.1) ∧ (w.heap.size ≤ s_.1) ∧ (gb398 ≠ s_.1) ∧ (s_.1 ≠ gb398) ∧ (gb399 ≠ s_.1) ∧ (s_.1 ≠ gb399) ∧ (s_.2 ≠ s_.1) ∧ (s_.1 ≠ s_.2) ∧ (w.heap.size ≤ s_.2) ∧ (w.heap.size ≤ s_.2) ∧ (gb398 ≠ s_.2) ∧ (s_.2 ≠ gb398) ∧ (gb399 ≠ s_.2) ∧ (s_.2 ≠ gb399) ∧ (Below w.heap.size w w')) ?_ ?_
    rotate_left
    ·intro hJ2_6_7
     refine join_ (σ:=Unit) 4 (ba 10 63) (fun s_=>[(11,.agg #[.int .i64 t400,.int .i64 t401]),(14,.agg #[.int .i64 t402,.int .i64 t403])]) (fun s_ w'=>(w'.cell? ⟨gb398,0,none⟩ = some (.int .i64 a0_0) ∧ w'.cell? ⟨gb398,1,none⟩ = some (.int .i64 a0_1)) ∧ (w'.heap[gb398]? = some (.cells #[.int .i64 a0_0,.int .i64 a0_1] 23 (0,0))) ∧ (w'.heap[gb399]? = some (.cells #[.int .i64 0,.int .i64 0] 23 (0,0))) ∧ (Below w.heap.size w w')) ?_ ?_
     rotate_left
     ·intro hJ2_5
      refine join_ (σ:=Nat) 4 (ba 10 95) (fun s_=>[(11,.agg #[.int .i64 t400,.int .i64 t401]),(7,.pointer (some ⟨s_,0,none⟩))]) (fun s_ w'=>(w'.cell? ⟨gb398,0,none⟩ = some (.int .i64 a0_0) ∧ w'.cell? ⟨gb398,1,none⟩ = some (.int .i64 a0_1)) ∧ (w'.heap[gb398]? = some (.cells #[.int .i64 a0_0,.int .i64 a0_1] 23 (0,0))) ∧ (w'.heap[gb399]? = some (.cells #[.int .i64 0,.int .i64 0] 23 (0,0))) ∧ (w'.heap[s_]? = some (.cells #[.int .i64 0,.int .i64 0] 23 (0,0))) ∧ (w.heap.size ≤ s_) ∧ (w.heap.size ≤ s_) ∧ (gb398 ≠ s_) ∧ (s_ ≠ gb398) ∧ (gb399 ≠ s_) ∧ (s_ ≠ gb399) ∧ (Below w.heap.size w w')) ?_ ?_
      rotate_left
      ·intro hJ2_6
       refine join_ (σ:=Nat) 4 (ba 10 159) (fun s_=>[(11,.agg #[.int .i64 t400,.int .i64 t401]),(8,.pointer (some ⟨s_,0,none⟩))]) (fun s_ w'=>(w'.cell? ⟨gb398,0,none⟩ = some (.int .i64 a0_0) ∧ w'.cell? ⟨gb398,1,none⟩ = some (.int .i64 a0_1)) ∧ (w'.heap[gb398]? = some (.cells #[.int .i64 a0_0,.int .i64 a0_1] 23 (0,0))) ∧ (w'.heap[gb399]? = some (.cells #[.int .i64 0,.int .i64 0] 23 (0,0))) ∧ (w'.heap[s_]? = some (.cells #[.int .i64 0,.int .i64 0] 23 (0,0))) ∧ (w.heap.size ≤ s_) ∧ (w.heap.size ≤ s_) ∧ (gb398 ≠ s_) ∧ (s_ ≠ gb398) ∧ (gb399 ≠ s_) ∧ (s_ ≠ gb399) ∧ (Below w.heap.size w w')) ?_ ?_
       rotate_left
       ·intro hJ2_7
        refine join_ (σ:=Nat × Nat) 4 (ba 10 219) (fun s_=>[(7,.pointer (some ⟨s_.1,0,none⟩)),(8,.pointer (some ⟨s_.2,0,none⟩))]) (fun s_ w'=>(w'.cell? ⟨gb398,0,none⟩ = some (.int .i64 a0_0) ∧ w'.cell? ⟨gb398,1,none⟩ = some (.int .i64 a0_1)) ∧ (w'.heap[gb398]? = some (.cells #[.int .i64 a0_0,.int .i64 a0_1] 23 (0,0))) ∧ (w'.heap[gb399]? = some (.cells #[.int .i64 0,.int .i64 0] 23 (0,0))) ∧ (w'.heap[s_.1]? = some (.cells #[.int .i64 0,.int .i64 0] 23 (0,0))) ∧ (w'.heap[s_.2]? = some (.cells #[.int .i64 0,.int .i64 0] 23 (0,0))) ∧ (w.heap.size ≤ s_.1) ∧ (w.heap.size ≤ s_.1) ∧ (gb398 ≠ s_.1) ∧ (s_.1 ≠ gb398) ∧ (gb399 ≠ s_.1) ∧ (s_.1 ≠ gb399) ∧ (s_.2 ≠ s_.1) ∧ (s_.1 ≠ s_.2) ∧ (w.heap.size ≤ s_.2) ∧ (w.heap.size ≤ s_.2) ∧ (gb398 ≠ s_.2) ∧ (s_.2 ≠ gb398) ∧ (gb399 ≠ s_.2) ∧ (s_.2 ≠ gb399) ∧ (Below w.heap.size w w')) ?_ ?_
        rotate_left
        ·intro hJ6_7
         refine join_ (σ:=Unit) 5 (ba 10 31) (fun s_=>[(11,.agg #[.int .i64 t400,.int .i64 t401])]) (fun s_ w'=>(w'.cell? ⟨gb398,0,none⟩ = some (.int .i64 a0_0) ∧ w'.cell? ⟨gb398,1,none⟩ = some (.int .i64 a0_1)) ∧ (w'.heap[gb398]? = some (.cells #[.int .i64 a0_0,.int .i64 a0_1] 23 (0,0))) ∧ (w'.heap[gb399]? = some (.cells #[.int .i64 0,.int .i64 0] 23 (0,0))) ∧ (Below w.heap.size w w')) ?_ ?_
         rotate_left
         ·intro hJ2
          refine join_ (σ:=Nat) 5 (ba 10 91) (fun s_=>[(7,.pointer (some ⟨s_,0,none⟩))]) (fun s_ w'=>(w'.cell? ⟨gb398,0,none⟩ = some (.int .i64 a0_0) ∧ w'.cell? ⟨gb398,1,none⟩ = some (.int .i64 a0_1)) ∧ (w'.heap[gb398]? = some (.cells #[.int .i64 a0_0,.int .i64 a0_1] 23 (0,0))) ∧ (w'.heap[gb399]? = some (.cells #[.int .i64 0,.int .i64 0] 23 (0,0))) ∧ (w'.heap[s_]? = some (.cells #[.int .i64 0,.int .i64 0] 23 (0,0))) ∧ (w.heap.size ≤ s_) ∧ (w.heap.size ≤ s_) ∧ (gb398 ≠ s_) ∧ (s_ ≠ gb398) ∧ (gb399 ≠ s_) ∧ (s_ ≠ gb399) ∧ (Below w.heap.size w w')) ?_ ?_
          rotate_left
          ·intro hJ6
           refine join_ (σ:=Nat) 5 (ba 10 155) (fun s_=>[(8,.pointer (some ⟨s_,0,none⟩))]) (fun s_ w'=>(w'.cell? ⟨gb398,0,none⟩ = some (.int .i64 a0_0) ∧ w'.cell? ⟨gb398,1,none⟩ = some (.int .i64 a0_1)) ∧ (w'.heap[gb398]? = some (.cells #[.int .i64 a0_0,.int .i64 a0_1] 23 (0,0))) ∧ (w'.heap[gb399]? = some (.cells #[.int .i64 0,.int .i64 0] 23 (0,0))) ∧ (w'.heap[s_]? = some (.cells #[.int .i64 0,.int .i64 0] 23 (0,0))) ∧ (w.heap.size ≤ s_) ∧ (w.heap.size ≤ s_) ∧ (gb398 ≠ s_) ∧ (s_ ≠ gb398) ∧ (gb399 ≠ s_) ∧ (s_ ≠ gb399) ∧ (Below w.heap.size w w')) ?_ ?_
           rotate_left
           ·intro hJ7
            refine three_ (i:=2) (j:=6) (k:=7) (Ni:=some 11) (Nj:=some 7) (Nk:=some 8) (ba 10 31) (ba 10 91) (ba 10 155) rfl rfl rfl rfl rfl rfl (three_of HT_.out (by kernel_rfl)) (by decide) (by decide) (by decide) (fun K hK=>?_) (fun K hK=>?_) (fun K hK=>?_)
            ·skip
             refine gq Try.func66 #[.agg #[.int .i64 a0_0,.int .i64 a0_1],.int .i64 a2] ?_
             with_reducible refine (numnahref07_rest.calls k a0_0 a0_1 a2 t400 t401 _ A4.out).mono ?_
             rintro e w13 ⟨rfl,hb⟩
             refine ⟨_,rfl,?_⟩
             replace BK398:=kB BK398 hb
             replace BK399:=kB BK399 hb
             replace HB:=bB HB hb
             (try clear hb)
             refine hz hK (fun hHeld=>?_)
             clear hK K
             refine nq 11 ?_
             exact norm_ (by simp only [putAll,pu0,la,lb,lc]) (hJ2 () _ ⟨hHeld,BK398.out,BK399.out,HB.out⟩)
            ·skip
             refine box_step ?hg (N:=7) ?hd (cs:=#[.int .i64 0,.int .i64 0]) (t:=23) ?hr ?_;(case hd=>rfl);(case hg=>rfl);(case hr=>first | (go_simp;done) | (go_simp;rfl))
             intro gb404 hg w13 hbox hb
             have BK404:=A_ hbox
             have GW404:=gw hg HB
             have GE404:=GW404
             have NB398_404:=nl hg BK398
             have NB404_398:=ng hg BK398
             have NB399_404:=nl hg BK399
             have NB404_399:=ng hg BK399
             replace BK398:=kB BK398 hb
             replace BK399:=kB BK399 hb
             replace HB:=bB HB hb
             clear hb hbox hg
             refine hz hK (fun hHeld=>?_)
             clear hK K
             refine nq 7 ?_
             exact norm_ (by simp only [putAll,pu0,la,lb,lc]) (hJ6 gb404 _ ⟨hHeld,BK398.out,BK399.out,BK404.out,GW404.out,GE404.out,NB398_404.out,NB404_398.out,NB399_404.out,NB404_399.out,HB.out⟩)
            skip
            refine box_step ?hg (N:=8) ?hd (cs:=#[.int .i64 0,.int .i64 0]) (t:=23) ?hr ?_;(case hd=>rfl);(case hg=>rfl);(case hr=>first | (go_simp;done) | (go_simp;rfl))
            intro gb405 hg w13 hbox hb
            have BK405:=A_ hbox
            have GW405:=gw hg HB
            have GE405:=GW405
            have NB398_405:=nl hg BK398
            have NB405_398:=ng hg BK398
            have NB399_405:=nl hg BK399
            have NB405_399:=ng hg BK399
            replace BK398:=kB BK398 hb
            replace BK399:=kB BK399 hb
            replace HB:=bB HB hb
            clear hb hbox hg
            refine hz hK (fun hHeld=>?_)
            clear hK K
            refine nq 8 ?_
            exact norm_ (by simp only [putAll,pu0,la,lb,lc]) (hJ7 gb405 _ ⟨hHeld,BK398.out,BK399.out,BK405.out,GW405.out,GE405.out,NB398_405.out,NB405_398.out,NB399_405.out,NB405_399.out,HB.out⟩)
           skip
           rintro gb405 w14 ⟨hS_,h0_,h1_,h2_,h3_,h4_,h5_,h6_,h7_,h8_,h9_⟩
           have BK405:Aside0 (w14.heap[gb405]? = some (.cells #[.int .i64 0,.int .i64 0] 23 (0,0))):=⟨h2_⟩
           have GW405:Aside0 (w.heap.size ≤ gb405):=⟨h3_⟩
           have GE405:Aside0 (w.heap.size ≤ gb405):=⟨h4_⟩
           have NB398_405:Aside0 (gb398 ≠ gb405):=⟨h5_⟩
           have NB405_398:Aside0 (gb405 ≠ gb398):=⟨h6_⟩
           have NB399_405:Aside0 (gb399 ≠ gb405):=⟨h7_⟩
           have NB405_399:Aside0 (gb405 ≠ gb399):=⟨h8_⟩
           replace BK398:Aside0 (w14.heap[gb398]? = some (.cells #[.int .i64 a0_0,.int .i64 a0_1] 23 (0,0))):=⟨h0_⟩
           replace BK399:Aside0 (w14.heap[gb399]? = some (.cells #[.int .i64 0,.int .i64 0] 23 (0,0))):=⟨h1_⟩
           replace HB:Aside0 (Below w.heap.size w w14):=⟨h9_⟩
           clear h0_ h1_ h2_ h3_ h4_ h5_ h6_ h7_ h8_ h9_
           have hHeld:w14.cell? ⟨gb398,0,none⟩ = some (.int .i64 a0_0) ∧ w14.cell? ⟨gb398,1,none⟩ = some (.int .i64 a0_1):=hS_
           refine norm_ (a':=?_) ?_ ?_
           rotate_left
           ·simp only [putAll,Act.put,List.setIfInBounds_toArray,List.set_cons_zero,List.set_cons_succ]
            rfl
           refine two_ (i:=2) (j:=6) (Ni:=some 11) (Nj:=some 7) (ba 10 159) (ba 10 219) rfl rfl rfl rfl (two_of HT_.out (by kernel_rfl)) (by decide) (by decide) (fun K hK=>?_) (fun K hK=>?_)
           ·skip
            refine gq Try.func66 #[.agg #[.int .i64 a0_0,.int .i64 a0_1],.int .i64 a2] ?_
            with_reducible refine (numnahref07_rest.calls k a0_0 a0_1 a2 t400 t401 _ A4.out).mono ?_
            rintro e w15 ⟨rfl,hb⟩
            refine ⟨_,rfl,?_⟩
            replace BK398:=kB BK398 hb
            replace BK399:=kB BK399 hb
            replace BK405:=kB BK405 hb
            replace HB:=bB HB hb
            (try clear hb)
            refine hz hK (fun hHeld=>?_)
            clear hK K
            refine nq 11 ?_
            exact norm_ (by simp only [putAll,pu0,la,lb,lc]) (hJ2_7 gb405 _ ⟨hHeld,BK398.out,BK399.out,BK405.out,GW405.out,GE405.out,NB398_405.out,NB405_398.out,NB399_405.out,NB405_399.out,HB.out⟩)
           skip
           refine box_step ?hg (N:=7) ?hd (cs:=#[.int .i64 0,.int .i64 0]) (t:=23) ?hr ?_;(case hd=>rfl);(case hg=>rfl);(case hr=>first | (go_simp;done) | (go_simp;rfl))
           intro gb404 hg w15 hbox hb
           have BK404:=A_ hbox
           have GW404:=gw hg HB
           have GE404:=GW404
           have NB398_404:=nl hg BK398
           have NB404_398:=ng hg BK398
           have NB399_404:=nl hg BK399
           have NB404_399:=ng hg BK399
           have NB405_404:=nl hg BK405
           have NB404_405:=ng hg BK405
           replace BK398:=kB BK398 hb
           replace BK399:=kB BK399 hb
           replace BK405:=kB BK405 hb
           replace HB:=bB HB hb
           clear hb hbox hg
           refine hz hK (fun hHeld=>?_)
           clear hK K
           refine nq 7 ?_
           exact norm_ (by simp only [putAll,pu0,la,lb,lc]) (hJ6_7 (gb404,gb405) _ ⟨hHeld,BK398.out,BK399.out,BK404.out,BK405.out,GW404.out,GE404.out,NB398_404.out,NB404_398.out,NB399_404.out,NB404_399.out,NB405_404.out,NB404_405.out,GW405.out,GE405.out,NB398_405.out,NB405_398.out,NB399_405.out,NB405_399.out,HB.out⟩)
          skip
          rintro gb404 w14 ⟨hS_,h0_,h1_,h2_,h3_,h4_,h5_,h6_,h7_,h8_,h9_⟩
          have BK404:Aside0 (w14.heap[gb404]? = some (.cells #[.int .i64 0,.int .i64 0] 23 (0,0))):=⟨h2_⟩
          have GW404:Aside0 (w.heap.size ≤ gb404):=⟨h3_⟩
          have GE404:Aside0 (w.heap.size ≤ gb404):=⟨h4_⟩
          have NB398_404:Aside0 (gb398 ≠ gb404):=⟨h5_⟩
          have NB404_398:Aside0 (gb404 ≠ gb398):=⟨h6_⟩
          have NB399_404:Aside0 (gb399 ≠ gb404):=⟨h7_⟩
          have NB404_399:Aside0 (gb404 ≠ gb399):=⟨h8_⟩
          replace BK398:Aside0 (w14.heap[gb398]? = some (.cells #[.int .i64 a0_0,.int .i64 a0_1] 23 (0,0))):=⟨h0_⟩
          replace BK399:Aside0 (w14.heap[gb399]? = some (.cells #[.int .i64 0,.int .i64 0] 23 (0,0))):=⟨h1_⟩
          replace HB:Aside0 (Below w.heap.size w w14):=⟨h9_⟩
          clear h0_ h1_ h2_ h3_ h4_ h5_ h6_ h7_ h8_ h9_
          have hHeld:w14.cell? ⟨gb398,0,none⟩ = some (.int .i64 a0_0) ∧ w14.cell? ⟨gb398,1,none⟩ = some (.int .i64 a0_1):=hS_
          refine norm_ (a':=?_) ?_ ?_
          rotate_left
          ·simp only [putAll,Act.put,List.setIfInBounds_toArray,List.set_cons_zero,List.set_cons_succ]
           rfl
          refine two_ (i:=2) (j:=7) (Ni:=some 11) (Nj:=some 8) (ba 10 95) (ba 10 219) rfl rfl rfl rfl (two_of HT_.out (by kernel_rfl)) (by decide) (by decide) (fun K hK=>?_) (fun K hK=>?_)
          ·skip
           refine gq Try.func66 #[.agg #[.int .i64 a0_0,.int .i64 a0_1],.int .i64 a2] ?_
           with_reducible refine (numnahref07_rest.calls k a0_0 a0_1 a2 t400 t401 _ A4.out).mono ?_
           rintro e w15 ⟨rfl,hb⟩
           refine ⟨_,rfl,?_⟩
           replace BK398:=kB BK398 hb
           replace BK399:=kB BK399 hb
           replace BK404:=kB BK404 hb
           replace HB:=bB HB hb
           (try clear hb)
           refine hz hK (fun hHeld=>?_)
           clear hK K
           refine nq 11 ?_
           exact norm_ (by simp only [putAll,pu0,la,lb,lc]) (hJ2_6 gb404 _ ⟨hHeld,BK398.out,BK399.out,BK404.out,GW404.out,GE404.out,NB398_404.out,NB404_398.out,NB399_404.out,NB404_399.out,HB.out⟩)
          skip
          refine box_step ?hg (N:=8) ?hd (cs:=#[.int .i64 0,.int .i64 0]) (t:=23) ?hr ?_;(case hd=>rfl);(case hg=>rfl);(case hr=>first | (go_simp;done) | (go_simp;rfl))
          intro gb405 hg w15 hbox hb
          have BK405:=A_ hbox
          have GW405:=gw hg HB
          have GE405:=GW405
          have NB398_405:=nl hg BK398
          have NB405_398:=ng hg BK398
          have NB399_405:=nl hg BK399
          have NB405_399:=ng hg BK399
          have NB404_405:=nl hg BK404
          have NB405_404:=ng hg BK404
          replace BK398:=kB BK398 hb
          replace BK399:=kB BK399 hb
          replace BK404:=kB BK404 hb
          replace HB:=bB HB hb
          clear hb hbox hg
          refine hz hK (fun hHeld=>?_)
          clear hK K
          refine nq 8 ?_
          exact norm_ (by simp only [putAll,pu0,la,lb,lc]) (hJ6_7 (gb404,gb405) _ ⟨hHeld,BK398.out,BK399.out,BK404.out,BK405.out,GW404.out,GE404.out,NB398_404.out,NB404_398.out,NB399_404.out,NB404_399.out,NB405_404.out,NB404_405.out,GW405.out,GE405.out,NB398_405.out,NB405_398.out,NB399_405.out,NB405_399.out,HB.out⟩)
         skip
         rintro _ w14 ⟨hS_,h0_,h1_,h2_⟩
         replace BK398:Aside0 (w14.heap[gb398]? = some (.cells #[.int .i64 a0_0,.int .i64 a0_1] 23 (0,0))):=⟨h0_⟩
         replace BK399:Aside0 (w14.heap[gb399]? = some (.cells #[.int .i64 0,.int .i64 0] 23 (0,0))):=⟨h1_⟩
         replace HB:Aside0 (Below w.heap.size w w14):=⟨h2_⟩
         clear h0_ h1_ h2_
         have hHeld:w14.cell? ⟨gb398,0,none⟩ = some (.int .i64 a0_0) ∧ w14.cell? ⟨gb398,1,none⟩ = some (.int .i64 a0_1):=hS_
         refine norm_ (a':=?_) ?_ ?_
         rotate_left
         ·simp only [putAll,Act.put,List.setIfInBounds_toArray,List.set_cons_zero,List.set_cons_succ]
          rfl
         refine three_ (i:=5) (j:=6) (k:=7) (Ni:=some 14) (Nj:=some 7) (Nk:=some 8) (ba 10 63) (ba 10 95) (ba 10 159) rfl rfl rfl rfl rfl rfl (three_of HT_.out (by kernel_rfl)) (by decide) (by decide) (by decide) (fun K hK=>?_) (fun K hK=>?_) (fun K hK=>?_)
         ·skip
          refine gq Try.func66 #[.agg #[.int .i64 a0_0,.int .i64 a0_1],.int .i64 a1] ?_
          with_reducible refine (numnahref07_rest.calls k a0_0 a0_1 a1 t402 t403 _ A5.out).mono ?_
          rintro e w15 ⟨rfl,hb⟩
          refine ⟨_,rfl,?_⟩
          replace BK398:=kB BK398 hb
          replace BK399:=kB BK399 hb
          replace HB:=bB HB hb
          (try clear hb)
          refine hz hK (fun hHeld=>?_)
          clear hK K
          refine nq 14 ?_
          exact norm_ (by simp only [putAll,pu0,la,lb,lc]) (hJ2_5 () _ ⟨hHeld,BK398.out,BK399.out,HB.out⟩)
         ·skip
          refine box_step ?hg (N:=7) ?hd (cs:=#[.int .i64 0,.int .i64 0]) (t:=23) ?hr ?_;(case hd=>rfl);(case hg=>rfl);(case hr=>first | (go_simp;done) | (go_simp;rfl))
          intro gb404 hg w15 hbox hb
          have BK404:=A_ hbox
          have GW404:=gw hg HB
          have GE404:=GW404
          have NB398_404:=nl hg BK398
          have NB404_398:=ng hg BK398
          have NB399_404:=nl hg BK399
          have NB404_399:=ng hg BK399
          replace BK398:=kB BK398 hb
          replace BK399:=kB BK399 hb
          replace HB:=bB HB hb
          clear hb hbox hg
          refine hz hK (fun hHeld=>?_)
          clear hK K
          refine nq 7 ?_
          exact norm_ (by simp only [putAll,pu0,la,lb,lc]) (hJ2_6 gb404 _ ⟨hHeld,BK398.out,BK399.out,BK404.out,GW404.out,GE404.out,NB398_404.out,NB404_398.out,NB399_404.out,NB404_399.out,HB.out⟩)
         skip
         refine box_step ?hg (N:=8) ?hd (cs:=#[.int .i64 0,.int .i64 0]) (t:=23) ?hr ?_;(case hd=>rfl);(case hg=>rfl);(case hr=>first | (go_simp;done) | (go_simp;rfl))
         intro gb405 hg w15 hbox hb
         have BK405:=A_ hbox
         have GW405:=gw hg HB
         have GE405:=GW405
         have NB398_405:=nl hg BK398
         have NB405_398:=ng hg BK398
         have NB399_405:=nl hg BK399
         have NB405_399:=ng hg BK399
         replace BK398:=kB BK398 hb
         replace BK399:=kB BK399 hb
         replace HB:=bB HB hb
         clear hb hbox hg
         refine hz hK (fun hHeld=>?_)
         clear hK K
         refine nq 8 ?_
         exact norm_ (by simp only [putAll,pu0,la,lb,lc]) (hJ2_7 gb405 _ ⟨hHeld,BK398.out,BK399.out,BK405.out,GW405.out,GE405.out,NB398_405.out,NB405_398.out,NB399_405.out,NB405_399.out,HB.out⟩)
        skip
        rintro ⟨gb404,gb405⟩ w15 ⟨hS_,h0_,h1_,h2_,h3_,h4_,h5_,h6_,h7_,h8_,h9_,h10_,h11_,h12_,h13_,h14_,h15_,h16_,h17_,h18_⟩
        have BK404:Aside0 (w15.heap[gb404]? = some (.cells #[.int .i64 0,.int .i64 0] 23 (0,0))):=⟨h2_⟩
        have BK405:Aside0 (w15.heap[gb405]? = some (.cells #[.int .i64 0,.int .i64 0] 23 (0,0))):=⟨h3_⟩
        have GW404:Aside0 (w.heap.size ≤ gb404):=⟨h4_⟩
        have GE404:Aside0 (w.heap.size ≤ gb404):=⟨h5_⟩
        have NB398_404:Aside0 (gb398 ≠ gb404):=⟨h6_⟩
        have NB404_398:Aside0 (gb404 ≠ gb398):=⟨h7_⟩
        have NB399_404:Aside0 (gb399 ≠ gb404):=⟨h8_⟩
        have NB404_399:Aside0 (gb404 ≠ gb399):=⟨h9_⟩
        have NB405_404:Aside0 (gb405 ≠ gb404):=⟨h10_⟩
        have NB404_405:Aside0 (gb404 ≠ gb405):=⟨h11_⟩
        have GW405:Aside0 (w.heap.size ≤ gb405):=⟨h12_⟩
        have GE405:Aside0 (w.heap.size ≤ gb405):=⟨h13_⟩
        have NB398_405:Aside0 (gb398 ≠ gb405):=⟨h14_⟩
        have NB405_398:Aside0 (gb405 ≠ gb398):=⟨h15_⟩
        have NB399_405:Aside0 (gb399 ≠ gb405):=⟨h16_⟩
        have NB405_399:Aside0 (gb405 ≠ gb399):=⟨h17_⟩
        replace BK398:Aside0 (w15.heap[gb398]? = some (.cells #[.int .i64 a0_0,.int .i64 a0_1] 23 (0,0))):=⟨h0_⟩
        replace BK399:Aside0 (w15.heap[gb399]? = some (.cells #[.int .i64 0,.int .i64 0] 23 (0,0))):=⟨h1_⟩
        replace HB:Aside0 (Below w.heap.size w w15):=⟨h18_⟩
        clear h0_ h1_ h2_ h3_ h4_ h5_ h6_ h7_ h8_ h9_ h10_ h11_ h12_ h13_ h14_ h15_ h16_ h17_ h18_
        have hHeld:w15.cell? ⟨gb398,0,none⟩ = some (.int .i64 a0_0) ∧ w15.cell? ⟨gb398,1,none⟩ = some (.int .i64 a0_1):=hS_
        refine norm_ (a':=?_) ?_ ?_
        rotate_left
        ·simp only [putAll,Act.put,List.setIfInBounds_toArray,List.set_cons_zero,List.set_cons_succ]
         rfl
        refine oq 2 11 223 HT_ (fun K hK=>?_)
        refine gq Try.func66 #[.agg #[.int .i64 a0_0,.int .i64 a0_1],.int .i64 a2] ?_
        with_reducible refine (numnahref07_rest.calls k a0_0 a0_1 a2 t400 t401 _ A4.out).mono ?_
        rintro e w16 ⟨rfl,hb⟩
        refine ⟨_,rfl,?_⟩
        replace BK398:=kB BK398 hb
        replace BK399:=kB BK399 hb
        replace BK404:=kB BK404 hb
        replace BK405:=kB BK405 hb
        replace HB:=bB HB hb
        (try clear hb)
        refine hz hK (fun hHeld=>?_)
        clear hK K
        refine nq 11 ?_
        exact norm_ (by simp only [putAll,pu0,la,lb,lc]) (hJ2_6_7 (gb404,gb405) _ ⟨hHeld,BK398.out,BK399.out,BK404.out,BK405.out,GW404.out,GE404.out,NB398_404.out,NB404_398.out,NB399_404.out,NB404_399.out,NB405_404.out,NB404_405.out,GW405.out,GE405.out,NB398_405.out,NB405_398.out,NB399_405.out,NB405_399.out,HB.out⟩)
       skip
       rintro gb405 w15 ⟨hS_,h0_,h1_,h2_,h3_,h4_,h5_,h6_,h7_,h8_,h9_⟩
       have BK405:Aside0 (w15.heap[gb405]? = some (.cells #[.int .i64 0,.int .i64 0] 23 (0,0))):=⟨h2_⟩
       have GW405:Aside0 (w.heap.size ≤ gb405):=⟨h3_⟩
       have GE405:Aside0 (w.heap.size ≤ gb405):=⟨h4_⟩
       have NB398_405:Aside0 (gb398 ≠ gb405):=⟨h5_⟩
       have NB405_398:Aside0 (gb405 ≠ gb398):=⟨h6_⟩
       have NB399_405:Aside0 (gb399 ≠ gb405):=⟨h7_⟩
       have NB405_399:Aside0 (gb405 ≠ gb399):=⟨h8_⟩
       replace BK398:Aside0 (w15.heap[gb398]? = some (.cells #[.int .i64 a0_0,.int .i64 a0_1] 23 (0,0))):=⟨h0_⟩
       replace BK399:Aside0 (w15.heap[gb399]? = some (.cells #[.int .i64 0,.int .i64 0] 23 (0,0))):=⟨h1_⟩
       replace HB:Aside0 (Below w.heap.size w w15):=⟨h9_⟩
       clear h0_ h1_ h2_ h3_ h4_ h5_ h6_ h7_ h8_ h9_
       have hHeld:w15.cell? ⟨gb398,0,none⟩ = some (.int .i64 a0_0) ∧ w15.cell? ⟨gb398,1,none⟩ = some (.int .i64 a0_1):=hS_
       refine norm_ (a':=?_) ?_ ?_
       rotate_left
       ·simp only [putAll,Act.put,List.setIfInBounds_toArray,List.set_cons_zero,List.set_cons_succ]
        rfl
       refine two_ (i:=5) (j:=6) (Ni:=some 14) (Nj:=some 7) (ba 10 191) (ba 10 223) rfl rfl rfl rfl (two_of HT_.out (by kernel_rfl)) (by decide) (by decide) (fun K hK=>?_) (fun K hK=>?_)
       ·skip
        refine gq Try.func66 #[.agg #[.int .i64 a0_0,.int .i64 a0_1],.int .i64 a1] ?_
        with_reducible refine (numnahref07_rest.calls k a0_0 a0_1 a1 t402 t403 _ A5.out).mono ?_
        rintro e w16 ⟨rfl,hb⟩
        refine ⟨_,rfl,?_⟩
        replace BK398:=kB BK398 hb
        replace BK399:=kB BK399 hb
        replace BK405:=kB BK405 hb
        replace HB:=bB HB hb
        (try clear hb)
        refine hz hK (fun hHeld=>?_)
        clear hK K
        refine nq 14 ?_
        exact norm_ (by simp only [putAll,pu0,la,lb,lc]) (hJ2_5_7 gb405 _ ⟨hHeld,BK398.out,BK399.out,BK405.out,GW405.out,GE405.out,NB398_405.out,NB405_398.out,NB399_405.out,NB405_399.out,HB.out⟩)
       skip
       refine box_step ?hg (N:=7) ?hd (cs:=#[.int .i64 0,.int .i64 0]) (t:=23) ?hr ?_;(case hd=>rfl);(case hg=>rfl);(case hr=>first | (go_simp;done) | (go_simp;rfl))
       intro gb404 hg w16 hbox hb
       have BK404:=A_ hbox
       have GW404:=gw hg HB
       have GE404:=GW404
       have NB398_404:=nl hg BK398
       have NB404_398:=ng hg BK398
       have NB399_404:=nl hg BK399
       have NB404_399:=ng hg BK399
       have NB405_404:=nl hg BK405
       have NB404_405:=ng hg BK405
       replace BK398:=kB BK398 hb
       replace BK399:=kB BK399 hb
       replace BK405:=kB BK405 hb
       replace HB:=bB HB hb
       clear hb hbox hg
       refine hz hK (fun hHeld=>?_)
       clear hK K
       refine nq 7 ?_
       exact norm_ (by simp only [putAll,pu0,la,lb,lc]) (hJ2_6_7 (gb404,gb405) _ ⟨hHeld,BK398.out,BK399.out,BK404.out,BK405.out,GW404.out,GE404.out,NB398_404.out,NB404_398.out,NB399_404.out,NB404_399.out,NB405_404.out,NB404_405.out,GW405.out,GE405.out,NB398_405.out,NB405_398.out,NB399_405.out,NB405_399.out,HB.out⟩)
      skip
      rintro gb404 w15 ⟨hS_,h0_,h1_,h2_,h3_,h4_,h5_,h6_,h7_,h8_,h9_⟩
      have BK404:Aside0 (w15.heap[gb404]? = some (.cells #[.int .i64 0,.int .i64 0] 23 (0,0))):=⟨h2_⟩
      have GW404:Aside0 (w.heap.size ≤ gb404):=⟨h3_⟩
      have GE404:Aside0 (w.heap.size ≤ gb404):=⟨h4_⟩
      have NB398_404:Aside0 (gb398 ≠ gb404):=⟨h5_⟩
      have NB404_398:Aside0 (gb404 ≠ gb398):=⟨h6_⟩
      have NB399_404:Aside0 (gb399 ≠ gb404):=⟨h7_⟩
      have NB404_399:Aside0 (gb404 ≠ gb399):=⟨h8_⟩
      replace BK398:Aside0 (w15.heap[gb398]? = some (.cells #[.int .i64 a0_0,.int .i64 a0_1] 23 (0,0))):=⟨h0_⟩
      replace BK399:Aside0 (w15.heap[gb399]? = some (.cells #[.int .i64 0,.int .i64 0] 23 (0,0))):=⟨h1_⟩
      replace HB:Aside0 (Below w.heap.size w w15):=⟨h9_⟩
      clear h0_ h1_ h2_ h3_ h4_ h5_ h6_ h7_ h8_ h9_
      have hHeld:w15.cell? ⟨gb398,0,none⟩ = some (.int .i64 a0_0) ∧ w15.cell? ⟨gb398,1,none⟩ = some (.int .i64 a0_1):=hS_
      refine norm_ (a':=?_) ?_ ?_
      rotate_left
      ·simp only [putAll,Act.put,List.setIfInBounds_toArray,List.set_cons_zero,List.set_cons_succ]
       rfl
      refine two_ (i:=5) (j:=7) (Ni:=some 14) (Nj:=some 8) (ba 10 127) (ba 10 223) rfl rfl rfl rfl (two_of HT_.out (by kernel_rfl)) (by decide) (by decide) (fun K hK=>?_) (fun K hK=>?_)
      ·skip
       refine gq Try.func66 #[.agg #[.int .i64 a0_0,.int .i64 a0_1],.int .i64 a1] ?_
       with_reducible refine (numnahref07_rest.calls k a0_0 a0_1 a1 t402 t403 _ A5.out).mono ?_
       rintro e w16 ⟨rfl,hb⟩
       refine ⟨_,rfl,?_⟩
       replace BK398:=kB BK398 hb
       replace BK399:=kB BK399 hb
       replace BK404:=kB BK404 hb
       replace HB:=bB HB hb
       (try clear hb)
       refine hz hK (fun hHeld=>?_)
       clear hK K
       refine nq 14 ?_
       exact norm_ (by simp only [putAll,pu0,la,lb,lc]) (hJ2_5_6 gb404 _ ⟨hHeld,BK398.out,BK399.out,BK404.out,GW404.out,GE404.out,NB398_404.out,NB404_398.out,NB399_404.out,NB404_399.out,HB.out⟩)
      skip
      refine box_step ?hg (N:=8) ?hd (cs:=#[.int .i64 0,.int .i64 0]) (t:=23) ?hr ?_;(case hd=>rfl);(case hg=>rfl);(case hr=>first | (go_simp;done) | (go_simp;rfl))
      intro gb405 hg w16 hbox hb
      have BK405:=A_ hbox
      have GW405:=gw hg HB
      have GE405:=GW405
      have NB398_405:=nl hg BK398
      have NB405_398:=ng hg BK398
      have NB399_405:=nl hg BK399
      have NB405_399:=ng hg BK399
      have NB404_405:=nl hg BK404
      have NB405_404:=ng hg BK404
      replace BK398:=kB BK398 hb
      replace BK399:=kB BK399 hb
      replace BK404:=kB BK404 hb
      replace HB:=bB HB hb
      clear hb hbox hg
      refine hz hK (fun hHeld=>?_)
      clear hK K
      refine nq 8 ?_
      exact norm_ (by simp only [putAll,pu0,la,lb,lc]) (hJ2_6_7 (gb404,gb405) _ ⟨hHeld,BK398.out,BK399.out,BK404.out,BK405.out,GW404.out,GE404.out,NB398_404.out,NB404_398.out,NB399_404.out,NB404_399.out,NB405_404.out,NB404_405.out,GW405.out,GE405.out,NB398_405.out,NB405_398.out,NB399_405.out,NB405_399.out,HB.out⟩)
     skip
     rintro _ w15 ⟨hS_,h0_,h1_,h2_⟩
     replace BK398:Aside0 (w15.heap[gb398]? = some (.cells #[.int .i64 a0_0,.int .i64 a0_1] 23 (0,0))):=⟨h0_⟩
     replace BK399:Aside0 (w15.heap[gb399]? = some (.cells #[.int .i64 0,.int .i64 0] 23 (0,0))):=⟨h1_⟩
     replace HB:Aside0 (Below w.heap.size w w15):=⟨h2_⟩
     clear h0_ h1_ h2_
     have hHeld:w15.cell? ⟨gb398,0,none⟩ = some (.int .i64 a0_0) ∧ w15.cell? ⟨gb398,1,none⟩ = some (.int .i64 a0_1):=hS_
     refine norm_ (a':=?_) ?_ ?_
     rotate_left
     ·simp only [putAll,Act.put,List.setIfInBounds_toArray,List.set_cons_zero,List.set_cons_succ]
      rfl
     refine two_ (i:=6) (j:=7) (Ni:=some 7) (Nj:=some 8) (ba 10 127) (ba 10 191) rfl rfl rfl rfl (two_of HT_.out (by kernel_rfl)) (by decide) (by decide) (fun K hK=>?_) (fun K hK=>?_)
     ·skip
      refine box_step ?hg (N:=7) ?hd (cs:=#[.int .i64 0,.int .i64 0]) (t:=23) ?hr ?_;(case hd=>rfl);(case hg=>rfl);(case hr=>first | (go_simp;done) | (go_simp;rfl))
      intro gb404 hg w16 hbox hb
      have BK404:=A_ hbox
      have GW404:=gw hg HB
      have GE404:=GW404
      have NB398_404:=nl hg BK398
      have NB404_398:=ng hg BK398
      have NB399_404:=nl hg BK399
      have NB404_399:=ng hg BK399
      replace BK398:=kB BK398 hb
      replace BK399:=kB BK399 hb
      replace HB:=bB HB hb
      clear hb hbox hg
      refine hz hK (fun hHeld=>?_)
      clear hK K
      refine nq 7 ?_
      exact norm_ (by simp only [putAll,pu0,la,lb,lc]) (hJ2_5_6 gb404 _ ⟨hHeld,BK398.out,BK399.out,BK404.out,GW404.out,GE404.out,NB398_404.out,NB404_398.out,NB399_404.out,NB404_399.out,HB.out⟩)
     skip
     refine box_step ?hg (N:=8) ?hd (cs:=#[.int .i64 0,.int .i64 0]) (t:=23) ?hr ?_;(case hd=>rfl);(case hg=>rfl);(case hr=>first | (go_simp;done) | (go_simp;rfl))
     intro gb405 hg w16 hbox hb
     have BK405:=A_ hbox
     have GW405:=gw hg HB
     have GE405:=GW405
     have NB398_405:=nl hg BK398
     have NB405_398:=ng hg BK398
     have NB399_405:=nl hg BK399
     have NB405_399:=ng hg BK399
     replace BK398:=kB BK398 hb
     replace BK399:=kB BK399 hb
     replace HB:=bB HB hb
     clear hb hbox hg
     refine hz hK (fun hHeld=>?_)
     clear hK K
     refine nq 8 ?_
     exact norm_ (by simp only [putAll,pu0,la,lb,lc]) (hJ2_5_7 gb405 _ ⟨hHeld,BK398.out,BK399.out,BK405.out,GW405.out,GE405.out,NB398_405.out,NB405_398.out,NB399_405.out,NB405_399.out,HB.out⟩)
    skip
    rintro ⟨gb404,gb405⟩ w16 ⟨hS_,h0_,h1_,h2_,h3_,h4_,h5_,h6_,h7_,h8_,h9_,h10_,h11_,h12_,h13_,h14_,h15_,h16_,h17_,h18_⟩
    have BK404:Aside0 (w16.heap[gb404]? = some (.cells #[.int .i64 0,.int .i64 0] 23 (0,0))):=⟨h2_⟩
    have BK405:Aside0 (w16.heap[gb405]? = some (.cells #[.int .i64 0,.int .i64 0] 23 (0,0))):=⟨h3_⟩
    have GW404:Aside0 (w.heap.size ≤ gb404):=⟨h4_⟩
    have GE404:Aside0 (w.heap.size ≤ gb404):=⟨h5_⟩
    have NB398_404:Aside0 (gb398 ≠ gb404):=⟨h6_⟩
    have NB404_398:Aside0 (gb404 ≠ gb398):=⟨h7_⟩
    have NB399_404:Aside0 (gb399 ≠ gb404):=⟨h8_⟩
    have NB404_399:Aside0 (gb404 ≠ gb399):=⟨h9_⟩
    have NB405_404:Aside0 (gb405 ≠ gb404):=⟨h10_⟩
    have NB404_405:Aside0 (gb404 ≠ gb405):=⟨h11_⟩
    have GW405:Aside0 (w.heap.size ≤ gb405):=⟨h12_⟩
    have GE405:Aside0 (w.heap.size ≤ gb405):=⟨h13_⟩
    have NB398_405:Aside0 (gb398 ≠ gb405):=⟨h14_⟩
    have NB405_398:Aside0 (gb405 ≠ gb398):=⟨h15_⟩
    have NB399_405:Aside0 (gb399 ≠ gb405):=⟨h16_⟩
    have NB405_399:Aside0 (gb405 ≠ gb399):=⟨h17_⟩
    replace BK398:Aside0 (w16.heap[gb398]? = some (.cells #[.int .i64 a0_0,.int .i64 a0_1] 23 (0,0))):=⟨h0_⟩
    replace BK399:Aside0 (w16.heap[gb399]? = some (.cells #[.int .i64 0,.int .i64 0] 23 (0,0))):=⟨h1_⟩
    replace HB:Aside0 (Below w.heap.size w w16):=⟨h18_⟩
    clear h0_ h1_ h2_ h3_ h4_ h5_ h6_ h7_ h8_ h9_ h10_ h11_ h12_ h13_ h14_ h15_ h16_ h17_ h18_
    have hHeld:w16.cell? ⟨gb398,0,none⟩ = some (.int .i64 a0_0) ∧ w16.cell? ⟨gb398,1,none⟩ = some (.int .i64 a0_1):=hS_
    refine norm_ (a':=?_) ?_ ?_
    rotate_left
    ·simp only [putAll,Act.put,List.setIfInBounds_toArray,List.set_cons_zero,List.set_cons_succ]
     rfl
    refine oq 5 14 255 HT_ (fun K hK=>?_)
    refine gq Try.func66 #[.agg #[.int .i64 a0_0,.int .i64 a0_1],.int .i64 a1] ?_
    with_reducible refine (numnahref07_rest.calls k a0_0 a0_1 a1 t402 t403 _ A5.out).mono ?_
    rintro e w17 ⟨rfl,hb⟩
    refine ⟨_,rfl,?_⟩
    replace BK398:=kB BK398 hb
    replace BK399:=kB BK399 hb
    replace BK404:=kB BK404 hb
    replace BK405:=kB BK405 hb
    replace HB:=bB HB hb
    (try clear hb)
    refine hz hK (fun hHeld=>?_)
    clear hK K
    refine nq 14 ?_
    exact norm_ (by simp only [putAll,pu0,la,lb,lc]) (hJ2_5_6_7 (gb404,gb405) _ ⟨hHeld,BK398.out,BK399.out,BK404.out,BK405.out,GW404.out,GE404.out,NB398_404.out,NB404_398.out,NB399_404.out,NB404_399.out,NB405_404.out,NB404_405.out,GW405.out,GE405.out,NB398_405.out,NB405_398.out,NB399_405.out,NB405_399.out,HB.out⟩)
   skip
   rintro gb405 w16 ⟨hS_,h0_,h1_,h2_,h3_,h4_,h5_,h6_,h7_,h8_,h9_⟩
   have BK405:Aside0 (w16.heap[gb405]? = some (.cells #[.int .i64 0,.int .i64 0] 23 (0,0))):=⟨h2_⟩
   have GW405:Aside0 (w.heap.size ≤ gb405):=⟨h3_⟩
   have GE405:Aside0 (w.heap.size ≤ gb405):=⟨h4_⟩
   have NB398_405:Aside0 (gb398 ≠ gb405):=⟨h5_⟩
   have NB405_398:Aside0 (gb405 ≠ gb398):=⟨h6_⟩
   have NB399_405:Aside0 (gb399 ≠ gb405):=⟨h7_⟩
   have NB405_399:Aside0 (gb405 ≠ gb399):=⟨h8_⟩
   replace BK398:Aside0 (w16.heap[gb398]? = some (.cells #[.int .i64 a0_0,.int .i64 a0_1] 23 (0,0))):=⟨h0_⟩
   replace BK399:Aside0 (w16.heap[gb399]? = some (.cells #[.int .i64 0,.int .i64 0] 23 (0,0))):=⟨h1_⟩
   replace HB:Aside0 (Below w.heap.size w w16):=⟨h9_⟩
   clear h0_ h1_ h2_ h3_ h4_ h5_ h6_ h7_ h8_ h9_
   have hHeld:w16.cell? ⟨gb398,0,none⟩ = some (.int .i64 a0_0) ∧ w16.cell? ⟨gb398,1,none⟩ = some (.int .i64 a0_1):=hS_
   refine norm_ (a':=?_) ?_ ?_
   rotate_left
   ·simp only [putAll,Act.put,List.setIfInBounds_toArray,List.set_cons_zero,List.set_cons_succ]
    rfl
   refine oq 6 7 255 HT_ (fun K hK=>?_)
   refine box_step ?hg (N:=7) ?hd (cs:=#[.int .i64 0,.int .i64 0]) (t:=23) ?hr ?_;(case hd=>rfl);(case hg=>rfl);(case hr=>first | (go_simp;done) | (go_simp;rfl))
   intro gb404 hg w17 hbox hb
   have BK404:=A_ hbox
   have GW404:=gw hg HB
   have GE404:=GW404
   have NB398_404:=nl hg BK398
   have NB404_398:=ng hg BK398
   have NB399_404:=nl hg BK399
   have NB404_399:=ng hg BK399
   have NB405_404:=nl hg BK405
   have NB404_405:=ng hg BK405
   replace BK398:=kB BK398 hb
   replace BK399:=kB BK399 hb
   replace BK405:=kB BK405 hb
   replace HB:=bB HB hb
   clear hb hbox hg
   refine hz hK (fun hHeld=>?_)
   clear hK K
   refine nq 7 ?_
   exact norm_ (by simp only [putAll,pu0,la,lb,lc]) (hJ2_5_6_7 (gb404,gb405) _ ⟨hHeld,BK398.out,BK399.out,BK404.out,BK405.out,GW404.out,GE404.out,NB398_404.out,NB404_398.out,NB399_404.out,NB404_399.out,NB405_404.out,NB404_405.out,GW405.out,GE405.out,NB398_405.out,NB405_398.out,NB399_405.out,NB405_399.out,HB.out⟩)
  skip
  rintro gb404 w16 ⟨hS_,h0_,h1_,h2_,h3_,h4_,h5_,h6_,h7_,h8_,h9_⟩
  have BK404:Aside0 (w16.heap[gb404]? = some (.cells #[.int .i64 0,.int .i64 0] 23 (0,0))):=⟨h2_⟩
  have GW404:Aside0 (w.heap.size ≤ gb404):=⟨h3_⟩
  have GE404:Aside0 (w.heap.size ≤ gb404):=⟨h4_⟩
  have NB398_404:Aside0 (gb398 ≠ gb404):=⟨h5_⟩
  have NB404_398:Aside0 (gb404 ≠ gb398):=⟨h6_⟩
  have NB399_404:Aside0 (gb399 ≠ gb404):=⟨h7_⟩
  have NB404_399:Aside0 (gb404 ≠ gb399):=⟨h8_⟩
  replace BK398:Aside0 (w16.heap[gb398]? = some (.cells #[.int .i64 a0_0,.int .i64 a0_1] 23 (0,0))):=⟨h0_⟩
  replace BK399:Aside0 (w16.heap[gb399]? = some (.cells #[.int .i64 0,.int .i64 0] 23 (0,0))):=⟨h1_⟩
  replace HB:Aside0 (Below w.heap.size w w16):=⟨h9_⟩
  clear h0_ h1_ h2_ h3_ h4_ h5_ h6_ h7_ h8_ h9_
  have hHeld:w16.cell? ⟨gb398,0,none⟩ = some (.int .i64 a0_0) ∧ w16.cell? ⟨gb398,1,none⟩ = some (.int .i64 a0_1):=hS_
  refine norm_ (a':=?_) ?_ ?_
  rotate_left
  ·simp only [putAll,Act.put,List.setIfInBounds_toArray,List.set_cons_zero,List.set_cons_succ]
   rfl
  refine oq 7 8 255 HT_ (fun K hK=>?_)
  refine box_step ?hg (N:=8) ?hd (cs:=#[.int .i64 0,.int .i64 0]) (t:=23) ?hr ?_;(case hd=>rfl);(case hg=>rfl);(case hr=>first | (go_simp;done) | (go_simp;rfl))
  intro gb405 hg w17 hbox hb
  have BK405:=A_ hbox
  have GW405:=gw hg HB
  have GE405:=GW405
  have NB398_405:=nl hg BK398
  have NB405_398:=ng hg BK398
  have NB399_405:=nl hg BK399
  have NB405_399:=ng hg BK399
  have NB404_405:=nl hg BK404
  have NB405_404:=ng hg BK404
  replace BK398:=kB BK398 hb
  replace BK399:=kB BK399 hb
  replace BK404:=kB BK404 hb
  replace HB:=bB HB hb
  clear hb hbox hg
  refine hz hK (fun hHeld=>?_)
  clear hK K
  refine nq 8 ?_
  exact norm_ (by simp only [putAll,pu0,la,lb,lc]) (hJ2_5_6_7 (gb404,gb405) _ ⟨hHeld,BK398.out,BK399.out,BK404.out,BK405.out,GW404.out,GE404.out,NB398_404.out,NB404_398.out,NB399_404.out,NB404_399.out,NB405_404.out,NB404_405.out,GW405.out,GE405.out,NB398_405.out,NB405_398.out,NB399_405.out,NB405_399.out,HB.out⟩)
 rintro ⟨gb404,gb405⟩ w17 ⟨hS_,h0_,h1_,h2_,h3_,h4_,h5_,h6_,h7_,h8_,h9_,h10_,h11_,h12_,h13_,h14_,h15_,h16_,h17_,h18_⟩
 have BK404:Aside0 (w17.heap[gb404]? = some (.cells #[.int .i64 0,.int .i64 0] 23 (0,0))):=⟨h2_⟩
 have BK405:Aside0 (w17.heap[gb405]? = some (.cells #[.int .i64 0,.int .i64 0] 23 (0,0))):=⟨h3_⟩
 have GW404:Aside0 (w.heap.size ≤ gb404):=⟨h4_⟩
 have GE404:Aside0 (w.heap.size ≤ gb404):=⟨h5_⟩
 have NB398_404:Aside0 (gb398 ≠ gb404):=⟨h6_⟩
 have NB404_398:Aside0 (gb404 ≠ gb398):=⟨h7_⟩
 have NB399_404:Aside0 (gb399 ≠ gb404):=⟨h8_⟩
 have NB404_399:Aside0 (gb404 ≠ gb399):=⟨h9_⟩
 have NB405_404:Aside0 (gb405 ≠ gb404):=⟨h10_⟩
 have NB404_405:Aside0 (gb404 ≠ gb405):=⟨h11_⟩
 have GW405:Aside0 (w.heap.size ≤ gb405):=⟨h12_⟩
 have GE405:Aside0 (w.heap.size ≤ gb405):=⟨h13_⟩
 have NB398_405:Aside0 (gb398 ≠ gb405):=⟨h14_⟩
 have NB405_398:Aside0 (gb405 ≠ gb398):=⟨h15_⟩
 have NB399_405:Aside0 (gb399 ≠ gb405):=⟨h16_⟩
 have NB405_399:Aside0 (gb405 ≠ gb399):=⟨h17_⟩
 replace BK398:Aside0 (w17.heap[gb398]? = some (.cells #[.int .i64 a0_0,.int .i64 a0_1] 23 (0,0))):=⟨h0_⟩
 replace BK399:Aside0 (w17.heap[gb399]? = some (.cells #[.int .i64 0,.int .i64 0] 23 (0,0))):=⟨h1_⟩
 replace HB:Aside0 (Below w.heap.size w w17):=⟨h18_⟩
 clear h0_ h1_ h2_ h3_ h4_ h5_ h6_ h7_ h8_ h9_ h10_ h11_ h12_ h13_ h14_ h15_ h16_ h17_ h18_
 have hHeld:w17.cell? ⟨gb398,0,none⟩ = some (.int .i64 a0_0) ∧ w17.cell? ⟨gb398,1,none⟩ = some (.int .i64 a0_1):=hS_
 refine norm_ (a':=?_) ?_ ?_
 rotate_left
 ·simp only [putAll,Act.put,List.setIfInBounds_toArray,List.set_cons_zero,List.set_cons_succ]
  rfl
 refine one_ (i:=8) (N:=none) (ba 10 511) rfl rfl (one_of HT_.out (by kernel_rfl)) (by decide) (fun K hK=>?_)
 have hs18:w17.cell? ⟨gb404,0,none⟩ = some (.int .i64 0):=cz BK404 0
 have hfs18:=blk_frozen BK404.out 0
 have hns18_0:=NB398_404.out
 have hns18_1:=NB399_404.out
 have hns18_3:=NB405_404.out
 have hms18_0:=NB404_398.out
 have hms18_1:=NB404_399.out
 have hms18_3:=NB404_405.out
 have hs19:w17.cell? ⟨gb404,1,none⟩ = some (.int .i64 0):=cz BK404 1
 have hfs19:=blk_frozen BK404.out 1
 have hns19_0:=NB398_404.out
 have hns19_1:=NB399_404.out
 have hns19_3:=NB405_404.out
 have hms19_0:=NB404_398.out
 have hms19_1:=NB404_399.out
 have hms19_3:=NB404_405.out
 refine skip_ (w1:=?_) (by rfl) rfl ?_ ?_
 rotate_left
 ·go_simp
  rfl
 refine hK.out _ _ ⟨((cell_far (p:=⟨gb404,_,none⟩) NB398_404.out _).trans (((cell_far (p:=⟨gb404,_,none⟩) NB398_404.out _).trans (hHeld.1)))),((cell_far (p:=⟨gb404,_,none⟩) NB398_404.out _).trans (((cell_far (p:=⟨gb404,_,none⟩) NB398_404.out _).trans (hHeld.2))))⟩ (fun hHeld=>?_)
 clear hK K
 refine one_ (i:=9) (N:=none) (ba 10 1023) rfl rfl (one_of HT_.out (by kernel_rfl)) (by decide) (fun K hK=>?_)
 have hs20:w17.cell? ⟨gb405,0,none⟩ = some (.int .i64 0):=cz BK405 0
 have hfs20:=blk_frozen BK405.out 0
 have hns20_0:=NB398_405.out
 have hns20_1:=NB399_405.out
 have hns20_2:=NB404_405.out
 have hms20_0:=NB405_398.out
 have hms20_1:=NB405_399.out
 have hms20_2:=NB405_404.out
 have hs21:w17.cell? ⟨gb405,1,none⟩ = some (.int .i64 0):=cz BK405 1
 have hfs21:=blk_frozen BK405.out 1
 have hns21_0:=NB398_405.out
 have hns21_1:=NB399_405.out
 have hns21_2:=NB404_405.out
 have hms21_0:=NB405_398.out
 have hms21_1:=NB405_399.out
 have hms21_2:=NB405_404.out
 refine skip_ (w1:=?_) (by rfl) rfl ?_ ?_
 rotate_left
 ·go_simp
  rfl
 refine hK.out _ _ ⟨((cell_far (p:=⟨gb405,_,none⟩) NB398_405.out _).trans (((cell_far (p:=⟨gb405,_,none⟩) NB398_405.out _).trans (hHeld.1)))),((cell_far (p:=⟨gb405,_,none⟩) NB398_405.out _).trans (((cell_far (p:=⟨gb405,_,none⟩) NB398_405.out _).trans (hHeld.2))))⟩ (fun hHeld=>?_)
 clear hK K
 refine done_ (done_of HT_.out (by kernel_rfl)) ?_
 try go_wp2
 have n0_:Aside0 (((((w17.setCell ⟨gb404,0,none⟩ (.int .i64 t400)).setCell ⟨gb404,1,none⟩ (.int .i64 t401)).setCell ⟨gb405,0,none⟩ (.int .i64 t402)).setCell ⟨gb405,1,none⟩ (.int .i64 t403)).heap[gb398]? = some (.cells #[.int .i64 a0_0,.int .i64 a0_1] 23 (0,0))):=⟨by refine blk_far ?_ NB398_405.out _;refine blk_far ?_ NB398_405.out _;refine blk_far ?_ NB398_404.out _;refine blk_far ?_ NB398_404.out _;exact BK398.out⟩
 have n1_:Aside0 (((((w17.setCell ⟨gb404,0,none⟩ (.int .i64 t400)).setCell ⟨gb404,1,none⟩ (.int .i64 t401)).setCell ⟨gb405,0,none⟩ (.int .i64 t402)).setCell ⟨gb405,1,none⟩ (.int .i64 t403)).heap[gb399]? = some (.cells #[.int .i64 0,.int .i64 0] 23 (0,0))):=⟨by refine blk_far ?_ NB399_405.out _;refine blk_far ?_ NB399_405.out _;refine blk_far ?_ NB399_404.out _;refine blk_far ?_ NB399_404.out _;exact BK399.out⟩
 have n2_:Aside0 (((((w17.setCell ⟨gb404,0,none⟩ (.int .i64 t400)).setCell ⟨gb404,1,none⟩ (.int .i64 t401)).setCell ⟨gb405,0,none⟩ (.int .i64 t402)).setCell ⟨gb405,1,none⟩ (.int .i64 t403)).heap[gb404]? = some (.cells #[.int .i64 t400,.int .i64 t401] 23 (0,0))):=⟨by refine blk_far ?_ NB404_405.out _;refine blk_far ?_ NB404_405.out _;refine blk_put (cs:=#[.int .i64 t400,.int .i64 0]) ?_ 1 _ rfl;refine blk_put (cs:=#[.int .i64 0,.int .i64 0]) ?_ 0 _ rfl;exact BK404.out⟩
 have n3_:Aside0 (((((w17.setCell ⟨gb404,0,none⟩ (.int .i64 t400)).setCell ⟨gb404,1,none⟩ (.int .i64 t401)).setCell ⟨gb405,0,none⟩ (.int .i64 t402)).setCell ⟨gb405,1,none⟩ (.int .i64 t403)).heap[gb405]? = some (.cells #[.int .i64 t402,.int .i64 t403] 23 (0,0))):=⟨by refine blk_put (cs:=#[.int .i64 t402,.int .i64 0]) ?_ 1 _ rfl;refine blk_put (cs:=#[.int .i64 0,.int .i64 0]) ?_ 0 _ rfl;refine blk_far ?_ NB405_404.out _;refine blk_far ?_ NB405_404.out _;exact BK405.out⟩
 have n4_:Aside0 (Below w.heap.size w ((((w17.setCell ⟨gb404,0,none⟩ (.int .i64 t400)).setCell ⟨gb404,1,none⟩ (.int .i64 t401)).setCell ⟨gb405,0,none⟩ (.int .i64 t402)).setCell ⟨gb405,1,none⟩ (.int .i64 t403))):=⟨bl HB⟩
 generalize ((((w17.setCell ⟨gb404,0,none⟩ (.int .i64 t400)).setCell ⟨gb404,1,none⟩ (.int .i64 t401)).setCell ⟨gb405,0,none⟩ (.int .i64 t402)).setCell ⟨gb405,1,none⟩ (.int .i64 t403)) = w22 at n0_ n1_ n2_ n3_ n4_ ⊢
 have BK398:=n0_
 have BK399:=n1_
 have BK404:=n2_
 have BK405:=n3_
 have HB:=n4_
 clear n0_ n1_ n2_ n3_ n4_
 replace BK398:=kD BK398
 replace BK399:=kD BK399
 replace BK404:=kD BK404
 replace BK405:=kD BK405
 replace HB:=bD HB
 refine st 9 (fun w'=>w'.cell? ⟨gb404,0,none⟩ = some (.int .i64 t400) ∧ w'.cell? ⟨gb404,1,none⟩ = some (.int .i64 t401) ∧ w'.cell? ⟨gb398,0,none⟩ = some (.int .i64 a0_0) ∧ w'.cell? ⟨gb398,1,none⟩ = some (.int .i64 a0_1) ∧ w'.cell? ⟨gb405,0,none⟩ = some (.int .i64 t402) ∧ w'.cell? ⟨gb405,1,none⟩ = some (.int .i64 t403)) [] numnahref07_Garment.tab2 numnahref07_Garment.bits2 (fun hHeld HT_ HW_=>?_)
 generalize w22.drew = w23 at BK398 BK399 BK404 BK405 HB hHeld ⊢
 refine tq 0 15 1 HT_ HW_ hHeld ?_
 refine tq 1 16 3 HT_ HW_ hHeld ?_
 refine tq 2 17 7 HT_ HW_ hHeld ?_
 refine tq 4 19 23 HT_ HW_ hHeld ?_
 refine oq 3 18 31 HT_ (fun K hK=>?_)
 refine gq Try.func31 #[.agg #[.int .i64 a0_0,.int .i64 a0_1],.agg #[.int .i64 t400,.int .i64 t401]] ?_
 with_reducible refine (numnahref07_Sub.calls k a0_0 a0_1 t400 t401 t406 t407 _ A6.out).mono ?_
 rintro e w24 ⟨rfl,hb⟩
 refine ⟨_,rfl,?_⟩
 replace BK398:=kB BK398 hb
 replace BK399:=kB BK399 hb
 replace BK404:=kB BK404 hb
 replace BK405:=kB BK405 hb
 replace HB:=bB HB hb
 (try clear hb)
 refine hz hK (fun hHeld=>?_)
 clear hK K
 refine nq 18 ?_
 refine oq 5 20 63 HT_ (fun K hK=>?_)
 refine gq Try.func31 #[.agg #[.int .i64 t406,.int .i64 t407],.agg #[.int .i64 t402,.int .i64 t403]] ?_
 with_reducible refine (numnahref07_Sub.calls k t406 t407 t402 t403 t408 t409 _ A7.out).mono ?_
 rintro e w25 ⟨rfl,hb⟩
 refine ⟨_,rfl,?_⟩
 replace BK398:=kB BK398 hb
 replace BK399:=kB BK399 hb
 replace BK404:=kB BK404 hb
 replace BK405:=kB BK405 hb
 replace HB:=bB HB hb
 (try clear hb)
 refine hz hK (fun hHeld=>?_)
 clear hK K
 refine nq 20 ?_
 refine oq 6 21 127 HT_ (fun K hK=>?_)
 refine gq Try.func67 #[.agg #[.int .i64 t408,.int .i64 t409]] ?_
 with_reducible refine (numnahref07_Half.calls k t408 t409 t410 t411 _ A8.out).mono ?_
 rintro e w26 ⟨rfl,hb⟩
 refine ⟨_,rfl,?_⟩
 replace BK398:=kB BK398 hb
 replace BK399:=kB BK399 hb
 replace BK404:=kB BK404 hb
 replace BK405:=kB BK405 hb
 replace HB:=bB HB hb
 (try clear hb)
 refine hz hK (fun hHeld=>?_)
 clear hK K
 refine nq 21 ?_
 refine oq 7 22 255 HT_ (fun K hK=>?_)
 refine gq Try.func28 #[.agg #[.int .i64 t400,.int .i64 t401],.agg #[.int .i64 t410,.int .i64 t411]] ?_
 with_reducible refine (numnahref07_Add.calls k t400 t401 t410 t411 t412 t413 _ A9.out).mono ?_
 rintro e w27 ⟨rfl,hb⟩
 refine ⟨_,rfl,?_⟩
 replace BK398:=kB BK398 hb
 replace BK399:=kB BK399 hb
 replace BK404:=kB BK404 hb
 replace BK405:=kB BK405 hb
 replace HB:=bB HB hb
 (try clear hb)
 refine hz hK (fun hHeld=>?_)
 clear hK K
 refine nq 22 ?_
 refine one_ (i:=8) (N:=none) (ba 9 511) rfl rfl (one_of HT_.out (by kernel_rfl)) (by decide) (fun K hK=>?_)
 have hs28:w27.cell? ⟨gb399,0,none⟩ = some (.int .i64 0):=cz BK399 0
 have hfs28:=blk_frozen BK399.out 0
 have hns28_0:=NB398_399.out
 have hns28_2:=NB404_399.out
 have hns28_3:=NB405_399.out
 have hms28_0:=NB399_398.out
 have hms28_2:=NB399_404.out
 have hms28_3:=NB399_405.out
 have hs29:w27.cell? ⟨gb399,1,none⟩ = some (.int .i64 0):=cz BK399 1
 have hfs29:=blk_frozen BK399.out 1
 have hns29_0:=NB398_399.out
 have hns29_2:=NB404_399.out
 have hns29_3:=NB405_399.out
 have hms29_0:=NB399_398.out
 have hms29_2:=NB399_404.out
 have hms29_3:=NB399_405.out
 refine skip_ (w1:=?_) (by rfl) rfl ?_ ?_
 rotate_left
 ·go_simp
  rfl
 refine hK.out _ _ ⟨((cell_far (p:=⟨gb399,_,none⟩) NB404_399.out _).trans (((cell_far (p:=⟨gb399,_,none⟩) NB404_399.out _).trans (hHeld.1)))),((cell_far (p:=⟨gb399,_,none⟩) NB404_399.out _).trans (((cell_far (p:=⟨gb399,_,none⟩) NB404_399.out _).trans (hHeld.2.1)))),((cell_far (p:=⟨gb399,_,none⟩) NB398_399.out _).trans (((cell_far (p:=⟨gb399,_,none⟩) NB398_399.out _).trans (hHeld.2.2.1)))),((cell_far (p:=⟨gb399,_,none⟩) NB398_399.out _).trans (((cell_far (p:=⟨gb399,_,none⟩) NB398_399.out _).trans (hHeld.2.2.2.1)))),((cell_far (p:=⟨gb399,_,none⟩) NB405_399.out _).trans (((cell_far (p:=⟨gb399,_,none⟩) NB405_399.out _).trans (hHeld.2.2.2.2.1)))),((cell_far (p:=⟨gb399,_,none⟩) NB405_399.out _).trans (((cell_far (p:=⟨gb399,_,none⟩) NB405_399.out _).trans (hHeld.2.2.2.2.2))))⟩ (fun hHeld=>?_)
 clear hK K
 refine done_ (done_of HT_.out (by kernel_rfl)) ?_
 try go_wp2
 refine bodyPost_ret (results_cell_row rfl _ _ gb399 23 #[.int .i64 t412,.int .i64 t413] (0,0) _ rfl (by refine blk_put (cs:=#[.int .i64 t412,.int .i64 0]) ?_ 1 _ rfl;refine blk_put (cs:=#[.int .i64 0,.int .i64 0]) ?_ 0 _ rfl;exact BK399.out) Try.underlying23 rfl (by kernel_rfl)) rfl ?_
 exact ⟨rfl,bl HB⟩
end Go.Proofs.Ytjohcjfmlhihbaa.G
namespace Go.Proofs.Ytjohcjfmlhihbaa.P
open Go Go.RowKit Go.Proofs.Ytjohcjfmlhihbaa.G
open Go.Proofs.YtjohcjfmlhihbaaW.PrintWords Go.Proofs.YtjohcjfmlhihbaaW.PrintMore
structure Sm (A D:Nat) (q:Rat):Prop where
 num:q.num.natAbs ≤ A
 den:q.den ≤ D
theorem Sm.mono {A D B E:Nat} {q:Rat} (h:Sm A D q) (h1:A ≤ B) (h2:D ≤ E):Sm B E q:=⟨Nat.le_trans h.num h1,Nat.le_trans h.den h2⟩
theorem Sm.int {A:Nat} {n:Int} (h:n.natAbs ≤ A):Sm A 1 (n:Rat):=⟨by rw [whole_num];exact h,by rw [whole_den];exact Nat.le_refl _⟩
theorem Sm.zero:Sm 0 1 (0:Rat):=⟨Nat.le_refl _,Nat.le_refl _⟩
theorem Sm.neg {A D:Nat} {q:Rat} (h:Sm A D q):Sm A D (-q):=⟨by rw [Rat.neg_num,Int.natAbs_neg];exact h.num,by rw [Rat.neg_den];exact h.den⟩
theorem Sm.add {A D B E:Nat} {p q:Rat} (h:Sm A D p) (k:Sm B E q):Sm (A * E + B * D) (D * E) (p + q) :=
 ⟨Nat.le_trans (add_num_le p q) (Nat.add_le_add (Nat.mul_le_mul h.num k.den) (Nat.mul_le_mul k.num h.den)),
  Nat.le_trans (Nat.le_of_dvd (Nat.mul_pos (den_pos p) (den_pos q)) (add_den_dvd p q)) (Nat.mul_le_mul h.den k.den)⟩
theorem Sm.sub {A D B E:Nat} {p q:Rat} (h:Sm A D p) (k:Sm B E q):Sm (A * E + B * D) (D * E) (p - q):=by rw [← sub_neg];exact h.add k.neg
theorem Sm.half {A D:Nat} {q:Rat} (h:Sm A D q):Sm A (D * 2) (q / 2):=by
 have e:q / 2 = mkRat q.num (q.den * 2):=(mk_over q (n:=2) (by omega)).symm
 rw [e]
 exact ⟨Nat.le_trans (num_le _ _) h.num,Nat.le_trans (den_le (by have:=den_pos q;omega)) (Nat.mul_le_mul_right _ h.den)⟩
theorem Sm.fits {A D B E:Nat} {p q:Rat} (h:Sm A D p) (k:Sm B E q) (h1:A * E + B * D < 9223372036854775808) (h2:D * E < 9223372036854775808):Fits p q :=
 ⟨Nat.lt_of_le_of_lt (Nat.add_le_add (Nat.mul_le_mul h.num k.den) (Nat.mul_le_mul k.num h.den)) h1,Nat.lt_of_le_of_lt (Nat.mul_le_mul h.den k.den) h2⟩
theorem restR_ge (e:Rat) (c:Rat):restR e c = if e < c then 0 else e - c:=by unfold restR;split <;> split <;> grind
section
variable {e:Rat} (he:Sm 2000000 400 e)
include he
theorem restS {c:Int} (h:0 ≤ c ∧ c ≤ 1000):Sm 2400000 400 (restR e (c:Rat)):=by
 unfold restR
 split
 ·exact (he.sub (Sm.int (A:=1000) (by omega))).mono (by decide) (by decide)
 ·exact Sm.zero.mono (by decide) (by decide)
theorem ev_rest {c:Int} (h:0 ≤ c ∧ c ≤ 1000):Ev (fun k=>shares_garment_1.f k c e.num (e.den:Int)) ((restR e (c:Rat)).num,((restR e (c:Rat)).den:Int)):=by
 unfold shares_garment_1.f shares_whole.f
 simp only [Option.bind_some]
 have hf:Fits e (c:Rat):=he.fits (Sm.int (A:=1000) (by omega)) (by decide) (by decide)
 have hm:=ev_minus hf
 rw [whole_num,whole_den] at hm
 refine Ev.bind hm ?_
 rw [restR_ge]
 by_cases hlt:e < (c:Rat)
 ·rw [if_pos hlt,if_pos ((sign_lt _ _).2 hlt)];exact Ev.now _
 ·rw [if_neg hlt,if_neg (fun h=>hlt ((sign_lt _ _).1 h))];exact Ev.now _
theorem ev_rrest {c:Int} (h:0 ≤ c ∧ c ≤ 1000):Ev (fun k=>numnahref07_rest.f k e.num (e.den:Int) c) ((restR e (c:Rat)).num,((restR e (c:Rat)).den:Int)):=by
 unfold numnahref07_rest.f numnahref07_Whole.f
 simp only [Option.bind_some]
 have hf:Fits e (c:Rat):=he.fits (Sm.int (A:=1000) (by omega)) (by decide) (by decide)
 have hf':Fits (c:Rat) e:=(Sm.int (A:=1000) (by omega)).fits he (by decide) (by decide)
 have hl:=rless hf'
 rw [whole_num,whole_den] at hl
 have hl':numnahref07_Less.f c 1 e.num (e.den:Int) = some (decide ((c:Rat) < e)):=hl
 simp only [hl',Option.bind_some]
 unfold restR
 by_cases hlt:(c:Rat) < e
 ·rw [if_pos hlt]
  refine Ev.congr (fun k=>if_pos (decide_eq_true hlt)) ?_
  have hm:=ev_rsub hf
  rw [whole_num,whole_den] at hm
  exact Ev.bind hm (Ev.now _)
 ·rw [if_neg hlt]
  exact Ev.congr (fun k=>if_neg (by simpa using hlt)) (Ev.now _)
theorem ev_garment {a b:Int} (ha:0 ≤ a ∧ a ≤ 1000) (hb:0 ≤ b ∧ b ≤ 1000) :
  Ev (fun k=>shares_garment.f k e.num (e.den:Int) a b) ((garR e (a:Rat) (b:Rat)).num,((garR e (a:Rat) (b:Rat)).den:Int),(garR e (b:Rat) (a:Rat)).num,((garR e (b:Rat) (a:Rat)).den:Int)):=by
 unfold shares_garment.f
 refine Ev.bind (ev_rest he hb) (Ev.bind (ev_rest he ha) ?_)
 have sx:=restS he hb
 have sy:=restS he ha
 refine Ev.bind (ev_add (sx.fits sy (by decide) (by decide))) ?_
 have sxy:=sx.add sy
 refine Ev.bind (ev_minus (he.fits sxy (by decide) (by decide))) ?_
 have sm:=he.sub sxy
 refine Ev.bind (ev_over _ (n:=2) (by omega) (Nat.lt_of_le_of_lt sm.num (by decide)) (Nat.lt_of_le_of_lt (Nat.mul_le_mul_right _ sm.den) (by decide))) ?_
 have sh:=sm.half
 refine Ev.bind (ev_add (sx.fits sh (by decide) (by decide))) (Ev.bind (ev_add (sy.fits sh (by decide) (by decide))) ?_)
 have e1:restR e (b:Rat) + (e - (restR e (b:Rat) + restR e (a:Rat))) / ((2:Nat):Rat) = garR e (a:Rat) (b:Rat):=by
  unfold garR;push_cast;grind
 have e2:restR e (a:Rat) + (e - (restR e (b:Rat) + restR e (a:Rat))) / ((2:Nat):Rat) = garR e (b:Rat) (a:Rat):=by
  unfold garR;push_cast;grind
 rw [← e1,← e2]
 exact Ev.now _
theorem ev_rgarment {a b:Int} (ha:0 ≤ a ∧ a ≤ 1000) (hb:0 ≤ b ∧ b ≤ 1000) :
  Ev (fun k=>numnahref07_Garment.f k e.num (e.den:Int) a b) ((garR e (a:Rat) (b:Rat)).num,((garR e (a:Rat) (b:Rat)).den:Int)):=by
 unfold numnahref07_Garment.f
 refine Ev.bind (ev_rrest he hb) (Ev.bind (ev_rrest he ha) ?_)
 have sx:=restS he hb
 have sy:=restS he ha
 refine Ev.bind (ev_rsub (he.fits sx (by decide) (by decide))) ?_
 have s1:=he.sub sx
 refine Ev.bind (ev_rsub (s1.fits sy (by decide) (by decide))) ?_
 have s2:=s1.sub sy
 refine Ev.bind (ev_rhalf (Nat.lt_of_le_of_lt s2.num (by decide)) (by have:=s2.den;omega)) ?_
 refine Ev.bind (ev_radd (sx.fits s2.half (by decide) (by decide))) ?_
 exact Ev.now _
end
end Go.Proofs.Ytjohcjfmlhihbaa.P
namespace Go.Proofs.Ytjohcjfmlhihbaa.P
open Go Go.RowKit Go.Proofs.Ytjohcjfmlhihbaa.G
open Go.Proofs.YtjohcjfmlhihbaaW.PrintWords Go.Proofs.YtjohcjfmlhihbaaW.PrintMore
def encQ (q:Rat):S23:=⟨q.num,(q.den:Int)⟩
def encL (l:List Rat):List S23:=l.map encQ
theorem encL_length (l:List Rat):(encL l).length = l.length:=List.length_map _
theorem rdE {l:List Rat} {i:Nat} (h:i < l.length):rd_T23 (encL l) (i:Int) = encQ l[i]:=by
 unfold rd_T23 encL
 simp [h]
def nI (l:List Nat):List Int:=l.map Int.ofNat
theorem nI_length (l:List Nat):(nI l).length = l.length:=List.length_map _
theorem rdN {l:List Nat} {i:Nat} (h:i < l.length):rd (nI l) (i:Int) = (l[i]:Int):=by
 unfold rd nI
 simp [h]
section
variable {q:List Rat} (hf:∀ x ∈ q,∀ y ∈ q,Fits x y) (hn:q.length < 20)
structure On (q:List Rat) (σ:List Nat) (m j:Nat):Prop where
 perm:σ.Perm (List.range q.length)
 ord:∀ a b,a < b → b < m → b ≠ j → q.getD (σ.getD a 0) 0 ≤ q.getD (σ.getD b 0) 0
theorem On.len {q:List Rat} {σ:List Nat} {m j:Nat} (h:On q σ m j):σ.length = q.length:=by rw [h.perm.length_eq,List.length_range]
theorem On.lt {q:List Rat} {σ:List Nat} {m j:Nat} (h:On q σ m j) {i:Nat} (hi:i < σ.length):σ[i] < q.length:=List.mem_range.1 (h.perm.mem_iff.1 (List.getElem_mem hi))
include hf
theorem ev_less {a b:Nat} (ha:a < q.length) (hb:b < q.length):Ev (fun k=>api_Frac_1.f k (a:Int) (b:Int) 0 (encL q)) (cmpR q[a] q[b]):=by
 unfold api_Frac_1.f
 rw [encL_length]
 simp only [if_pos (show (0:Int) ≤ (a:Int) by omega),if_pos (show (a:Int) < (q.length:Int) by omega),if_pos (show (0:Int) ≤ (b:Int) by omega),if_pos (show (b:Int) < (q.length:Int) by omega),rdE ha,rdE hb]
 exact Ev.bind (ev_compare (hf _ (List.getElem_mem ha) _ (List.getElem_mem hb))) (Ev.now _)
include hn
theorem sort_l1 {i:Nat} (hi:i < q.length) (Q:List Nat → Prop)
  (out:∀ σ,On q σ (i + 1) (i + 1) → ∃ τ,Q τ ∧ Ev (fun k=>slices_insertionSortCmpFunc_int.l0 k (nI σ) 0 (q.length:Int) (encL q) ((i + 1:Nat):Int)) (nI τ)) :
  ∀ (j:Nat) (σ:List Nat),j ≤ i → On q σ (i + 1) j → ∃ τ,Q τ ∧ Ev (fun k=>slices_insertionSortCmpFunc_int.l1 k (nI σ) 0 (q.length:Int) (encL q) (i:Int) (j:Int)) (nI τ):=by
 intro j
 induction j with
 | zero =>
  intro σ _ h
  obtain ⟨τ,hτ,he⟩:=out σ ⟨h.perm,fun a b hab hb _=>h.ord a b hab hb (by omega)⟩
  refine ⟨τ,hτ,Ev.step (fun k=>?_) he⟩
  rw [slices_insertionSortCmpFunc_int.l1,if_neg (by omega),wrap_succ (by omega)]
 | succ j ih =>
  intro σ hj h
  have hlen:=h.len
  have hj1:j + 1 < σ.length:=by omega
  have hj0:j < σ.length:=by omega
  have l1:=h.lt hj1
  have l0:=h.lt hj0
  have hev:=ev_less hf l1 l0
  have ew:wrap64 (((j + 1:Nat):Int) - 1) = (j:Int):=by unfold wrap64;omega
  have g1:σ.getD (j + 1) 0 = σ[j + 1]:=by simp [hj1]
  have g0:σ.getD j 0 = σ[j]:=by simp [hj0]
  have v1:q.getD σ[j + 1] 0 = q[σ[j + 1]]:=by simp [l1]
  have v0:q.getD σ[j] 0 = q[σ[j]]:=by simp [l0]
  have start:∀ k,slices_insertionSortCmpFunc_int.l1 (k + 1) (nI σ) 0 (q.length:Int) (encL q) (i:Int) ((j + 1:Nat):Int) = (api_Frac_1.f k ((σ[j + 1]:Nat):Int) ((σ[j]:Nat):Int) 0 (encL q)).bind fun t=>if t < 0 then slices_insertionSortCmpFunc_int.l1 k (((nI σ).set (j + 1) ((σ[j]:Nat):Int)).set j ((σ[j + 1]:Nat):Int)) 0 (q.length:Int) (encL q) (i:Int) (j:Int) else slices_insertionSortCmpFunc_int.l0 k (nI σ) 0 (q.length:Int) (encL q) ((i + 1:Nat):Int):=by
   intro k
   rw [slices_insertionSortCmpFunc_int.l1,ew,nI_length,if_pos (by omega),if_pos (by omega),if_pos (by omega),if_pos (by omega),if_pos (by omega),rdN hj1,rdN hj0,Int.toNat_natCast,Int.toNat_natCast,wrap_succ (by omega)]
  by_cases hlt:q[σ[j + 1]] < q[σ[j]]
  ·obtain ⟨σ',hσ'⟩:∃ σ',σ' = (σ.set (j + 1) σ[j]).set j σ[j + 1]:=⟨_,rfl⟩
   have hget:∀ a,σ'.getD a 0 = if a = j then σ[j + 1] else if a = j + 1 then σ[j] else σ.getD a 0:=by
    intro a
    rw [hσ']
    simp only [List.getD_eq_getElem?_getD,List.getElem?_set]
    by_cases e1:a = j
    ·subst e1;simp [hj0]
    ·rw [if_neg (fun e=>e1 e.symm),if_neg e1]
     by_cases e2:a = j + 1
     ·subst e2;simp [hj1]
     ·rw [if_neg (fun e=>e2 e.symm),if_neg e2]
   have hp:σ'.Perm σ:=by rw [hσ'];exact List.set_set_perm (i:=j + 1) (j:=j) hj1 hj0
   have hon:On q σ' (i + 1) j:=⟨hp.trans h.perm,fun a b hab hb hbj=>by
    rw [hget a,hget b,if_neg hbj]
    by_cases b1:b = j + 1
    ·rw [if_pos b1]
     by_cases a1:a = j
     ·rw [if_pos a1,v1,v0];exact Rat.le_of_lt hlt
     ·rw [if_neg a1,if_neg (by omega),← g0]
      exact h.ord a j (by omega) (by omega) (by omega)
    ·rw [if_neg b1]
     by_cases a1:a = j
     ·rw [if_pos a1,← g1]
      exact h.ord (j + 1) b (by omega) hb (by omega)
     ·rw [if_neg a1]
      by_cases a2:a = j + 1
      ·rw [if_pos a2,← g0]
       exact h.ord j b (by omega) hb (by omega)
      ·rw [if_neg a2]
       exact h.ord a b hab hb b1⟩
   obtain ⟨τ,hτ,he⟩:=ih σ' (by omega) hon
   refine ⟨τ,hτ,Ev.step start (Ev.bind hev ?_)⟩
   refine Ev.congr (fun k=>if_pos ((cmpR_lt _ _).2 hlt)) ?_
   have e:((nI σ).set (j + 1) ((σ[j]:Nat):Int)).set j ((σ[j + 1]:Nat):Int) = nI σ':=by
    rw [hσ']
    unfold nI
    rw [List.map_set,List.map_set]
    rfl
   rw [e]
   exact he
  ·obtain ⟨τ,hτ,he⟩:=out σ ⟨h.perm,fun a b hab hb _=>by
    by_cases b1:b = j + 1
    ·subst b1
     have hle:q[σ[j]] ≤ q[σ[j + 1]]:=by grind
     by_cases a1:a = j
     ·rw [a1,g0,g1,v0,v1];exact hle
     ·have:=h.ord a j (by omega) (by omega) (by omega)
      rw [g0,v0] at this
      rw [g1,v1]
      exact Rat.le_trans this hle
    ·exact h.ord a b hab hb b1⟩
   refine ⟨τ,hτ,Ev.step start (Ev.bind hev ?_)⟩
   exact Ev.congr (fun k=>if_neg (fun e=>hlt ((cmpR_lt _ _).1 e))) he
theorem sort_l0:∀ (d i:Nat) (σ:List Nat),i + d = q.length → On q σ i i → ∃ τ,On q τ q.length q.length ∧ Ev (fun k=>slices_insertionSortCmpFunc_int.l0 k (nI σ) 0 (q.length:Int) (encL q) (i:Int)) (nI τ):=by
 intro d
 induction d with
 | zero =>
  intro i σ hi h
  have:i = q.length:=by omega
  subst this
  refine ⟨σ,h,Ev.step (f:=fun _=>some (nI σ)) (fun k=>?_) (Ev.now _)⟩
  rw [slices_insertionSortCmpFunc_int.l0,if_neg (by omega)]
 | succ d ih =>
  intro i σ hi h
  obtain ⟨τ,hτ,he⟩:=sort_l1 hf hn (i:=i) (by omega) (fun τ=>On q τ q.length q.length) (fun σ' h'=>ih (i + 1) σ' (by omega) h') i σ (Nat.le_refl _) ⟨h.perm,fun a b hab hb hbi=>h.ord a b hab (by omega) hbi⟩
  refine ⟨τ,hτ,Ev.step (fun k=>?_) he⟩
  rw [slices_insertionSortCmpFunc_int.l0,if_pos (by omega)]
theorem by_l0:∀ (d i:Nat),i + d = q.length → ∃ τ,On q τ q.length q.length ∧ Ev (fun k=>by_compare.l0 k (nI (List.range i)) (q.length:Int) (i:Int) (encL q)) (nI τ):=by
 intro d
 induction d with
 | zero =>
  intro i hi
  have:i = q.length:=by omega
  subst this
  have hs:∃ τ,On q τ q.length q.length ∧ Ev (fun k=>slices_insertionSortCmpFunc_int.l0 k (nI (List.range q.length)) 0 (q.length:Int) (encL q) 1) (nI τ):=by
   by_cases h0:q.length = 0
   ·refine ⟨List.range q.length,⟨List.Perm.refl _,fun a b _ hb _=>by omega⟩,Ev.step (f:=fun _=>some (nI (List.range q.length))) (fun k=>?_) (Ev.now _)⟩
    rw [slices_insertionSortCmpFunc_int.l0,if_neg (by omega)]
   ·obtain ⟨τ,hτ,he⟩:=sort_l0 hf hn (q.length - 1) 1 (List.range q.length) (by omega) ⟨List.Perm.refl _,fun a b hab hb _=>by omega⟩
    exact ⟨τ,hτ,he⟩
  obtain ⟨τ,hτ,he⟩:=hs
  refine ⟨τ,hτ,Ev.step (f:=fun k=>(slices_SortStableFunc_int_int.f k (nI (List.range q.length)) (encL q)).bind fun t=>some t) (fun k=>?_) (Ev.bind ?_ (Ev.now _))⟩
  ·rw [by_compare.l0,if_neg (by omega)]
  ·unfold slices_SortStableFunc_int_int.f slices_stableCmpFunc_int.f
   rw [nI_length,List.length_range]
   refine Ev.bind (a:=nI τ) ?_ (Ev.now _)
   refine Ev.congr (fun k=>if_pos (by omega)) ?_
   refine Ev.step (f:=fun k=>(slices_insertionSortCmpFunc_int.f k (nI (List.range q.length)) 0 (q.length:Int) (encL q)).bind fun t=>slices_stableCmpFunc_int.l1 k t) (fun k=>rfl) (Ev.bind (a:=nI τ) ?_ ?_)
   ·unfold slices_insertionSortCmpFunc_int.f
    have:wrap64 ((0:Int) + 1) = 1:=wrap_id (by omega) (by omega)
    rw [this]
    exact he
   ·exact Ev.step (f:=fun _=>some (nI τ)) (fun k=>rfl) (Ev.now _)
 | succ d ih =>
  intro i hi
  obtain ⟨τ,hτ,he⟩:=ih (i + 1) (by omega)
  refine ⟨τ,hτ,Ev.step (fun k=>?_) he⟩
  rw [by_compare.l0,if_pos (by omega),if_pos (by rw [nI_length,List.length_range];omega),wrap_succ (by omega)]
  congr 1
  unfold nI
  rw [List.range_succ,List.map_append]
  rfl
theorem ev_by:∃ τ:List Nat,τ.Perm (List.range q.length) ∧ (τ.map fun i=>q.getD i 0).Pairwise (· ≤ ·) ∧ Ev (fun k=>by_compare.f k (encL q)) (nI τ):=by
 obtain ⟨τ,hτ,he⟩:=by_l0 hf hn q.length 0 (by omega)
 refine ⟨τ,hτ.perm,?_,?_⟩
 ·rw [List.pairwise_iff_getElem]
  intro a b ha hb hab
  rw [List.length_map] at ha hb
  rw [List.getElem_map,List.getElem_map]
  have:=hτ.ord a b hab (by rw [← hτ.len];exact hb) (by rw [← hτ.len];omega)
  simpa [ha,hb] using this
 ·unfold by_compare.f
  rw [encL_length]
  exact he
end
end Go.Proofs.Ytjohcjfmlhihbaa.P
namespace Go.Proofs.Ytjohcjfmlhihbaa.P
open Go Go.RowKit Go.Proofs.Ytjohcjfmlhihbaa.G
open Go.Proofs.YtjohcjfmlhihbaaW.PrintWords Go.Proofs.YtjohcjfmlhihbaaW.PrintMore
theorem encL_get {l:List Rat} {i:Nat} (h:i < l.length):(encL l)[i]'(by rw [encL_length];exact h) = encQ l[i]:=List.getElem_map _
def fac:Nat → Nat
 | 0=>1
 | n + 1=>(n + 1) * fac n
theorem fac_pos:∀ n,1 ≤ fac n
 | 0=>Nat.le_refl _
 | n + 1=>by rw [fac];exact Nat.mul_pos (by omega) (fac_pos n)
theorem fac_mono:∀ {a b:Nat},a ≤ b → fac a ≤ fac b
 | a,0,h=>by rw [show a = 0 by omega];exact Nat.le_refl _
 | a,b + 1,h=>by
  by_cases e:a = b + 1
  ·rw [e];exact Nat.le_refl _
  ·have:=fac_mono (a:=a) (b:=b) (by omega)
   rw [fac]
   have:1 * fac b ≤ (b + 1) * fac b:=Nat.mul_le_mul_right _ (by omega)
   omega
structure OkE (E:Rat) (D left:Nat):Prop where
 lo:0 ≤ E
 hi:E ≤ ((10000:Nat):Rat)
 den:E.den ∣ D
 two:2 ∣ D
 pos:0 < D
 small:D * fac left ≤ 7257600
structure OkC (c:Rat):Prop where
 lo:0 ≤ c
 hi:c ≤ ((1000:Nat):Rat)
 den:c.den ∣ 2
theorem num_abs {q:Rat} {B D:Nat} (h0:0 ≤ q) (h1:q ≤ (B:Rat)) (hd:q.den ≤ D):q.num.natAbs ≤ B * D:=by
 have:=num_of h0 h1 hd
 omega
theorem OkC.sm {c:Rat} (h:OkC c):Sm 2000 2 c:=⟨num_abs h.lo h.hi (den_le_of_dvd h.den (by omega)),den_le_of_dvd h.den (by omega)⟩
theorem OkE.le {E:Rat} {D left:Nat} (h:OkE E D left):D ≤ 7257600:=by
 have h1:=h.small
 have h2:D * 1 ≤ D * fac left:=Nat.mul_le_mul_left _ (fac_pos left)
 omega
theorem OkE.sm {E:Rat} {D left:Nat} (h:OkE E D left):Sm 72576000000 7257600 E:=by
 have hd:=Nat.le_trans (den_le_of_dvd h.den h.pos) h.le
 exact ⟨num_abs h.lo h.hi hd,hd⟩
theorem over_den (E:Rat) {n:Nat} (hn:0 < n):(E / (n:Rat)).den ∣ E.den * n:=by
 rw [← mk_over E hn]
 exact den_dvd _ (Nat.ne_of_gt (Nat.mul_pos (den_pos E) hn))
theorem nat_pos_rat {n:Nat} (h:0 < n):(0:Rat) < (n:Rat):=Rat.natCast_pos.2 h
theorem over_le {E:Rat} {n:Nat} (hn:0 < n) (h:0 ≤ E):0 ≤ E / (n:Rat) ∧ E / (n:Rat) ≤ E:=by
 have hp:=nat_pos_rat hn
 have h1:(1:Rat) ≤ (n:Rat):=by
  have:((1:Nat):Rat) ≤ (n:Rat):=Rat.natCast_le_natCast.2 hn
  simpa using this
 have hm:E / (n:Rat) * (n:Rat) = E:=Rat.div_mul_cancel (by grind)
 have h0:0 ≤ E / (n:Rat):=by
  refine Rat.le_of_mul_le_mul_right (c:=(n:Rat)) ?_ hp
  rw [hm];grind
 refine ⟨h0,?_⟩
 have:=Rat.mul_le_mul_of_nonneg_left h1 h0
 rw [hm] at this
 grind
section
variable {E c:Rat} {D n:Nat} (h:OkE E D (n + 1)) (hc:OkC c)
include h
theorem eqD:D * (n + 1) * fac n ≤ 7257600:=by
 have:=h.small
 rw [fac] at this
 rw [Nat.mul_assoc];exact this
theorem eqD':D * (n + 1) ≤ 7257600:=by
 have h1:=eqD h
 have h2:D * (n + 1) * 1 ≤ D * (n + 1) * fac n:=Nat.mul_le_mul_left _ (fac_pos n)
 omega
theorem over_dvd:(E / ((n + 1:Nat):Rat)).den ∣ D * (n + 1):=Nat.dvd_trans (over_den E (by omega)) (Nat.mul_dvd_mul_right h.den _)
theorem over_sm:Sm 72576000000 7257600 (E / ((n + 1:Nat):Rat)):=by
 have hd:=Nat.le_trans (den_le_of_dvd (over_dvd h) (Nat.mul_pos h.pos (by omega))) (eqD' h)
 have hl:=over_le (n:=n + 1) (by omega) h.lo
 exact ⟨num_abs hl.1 (Rat.le_trans hl.2 h.hi) hd,hd⟩
include hc
theorem min_dvd:(min c (E / ((n + 1:Nat):Rat))).den ∣ D * (n + 1):=by
 rw [Rat.min_def]
 split
 ·exact Nat.dvd_trans (Nat.dvd_trans hc.den h.two) (Nat.dvd_mul_right _ _)
 ·exact over_dvd h
theorem min_lohi:0 ≤ min c (E / ((n + 1:Nat):Rat)) ∧ min c (E / ((n + 1:Nat):Rat)) ≤ E:=by
 have hl:=over_le (n:=n + 1) (by omega) h.lo
 have:=hc.lo
 rw [Rat.min_def]
 split <;> grind
theorem min_sm:Sm 72576000000 7257600 (min c (E / ((n + 1:Nat):Rat))):=by
 have hd:=Nat.le_trans (den_le_of_dvd (min_dvd h hc) (Nat.mul_pos h.pos (by omega))) (eqD' h)
 have hl:=min_lohi h hc
 exact ⟨num_abs hl.1 (Rat.le_trans hl.2 h.hi) hd,hd⟩
theorem OkE.next:OkE (E - min c (E / ((n + 1:Nat):Rat))) (D * (n + 1)) n:=by
 have hl:=min_lohi h hc
 exact ⟨by grind,by have:=h.hi;grind,sub_den_dvd' (Nat.dvd_trans h.den (Nat.dvd_mul_right _ _)) (min_dvd h hc) (Nat.mul_pos h.pos (by omega)),Nat.dvd_trans h.two (Nat.dvd_mul_right _ _),Nat.mul_pos h.pos (by omega),eqD h⟩
end
def fin:List S23 → List Nat → List Rat → List S23
 | out,p :: ps,v :: vs=>fin (out.set p (encQ v)) ps vs
 | out,_,_=>out
theorem fin_length:∀ (ps:List Nat) (vs:List Rat) (out:List S23),(fin out ps vs).length = out.length
 | [],_,_=>by simp [fin]
 | _ :: _,[],_=>by simp [fin]
 | p :: ps,v :: vs,out=>by rw [fin,fin_length ps vs];simp
theorem fin_get (g:Nat → Rat):∀ (ps:List Nat) (out:List S23) (i:Nat),i < out.length → (fin out ps (ps.map g)).getD i z23 = if i ∈ ps then encQ (g i) else out.getD i z23
 | [],out,i,_=>by simp [fin]
 | p :: ps,out,i,h=>by
  rw [List.map_cons,fin,fin_get g ps _ i (by simpa using h)]
  by_cases h1:i ∈ ps
  ·rw [if_pos h1,if_pos (List.mem_cons_of_mem _ h1)]
  ·rw [if_neg h1]
   by_cases h2:i = p
   ·subst h2
    rw [if_pos (by simp)]
    simp [h]
   ·rw [if_neg (by simp [h1,h2])]
    simp only [List.getD_eq_getElem?_getD,List.getElem?_set]
    rw [if_neg (fun e=>h2 e.symm)]
section
variable {q:List Rat} (hq:∀ c ∈ q,OkC c) (hn:q.length ≤ 10)
include hq hn
theorem equal_l0 (τ:List Nat) (hτ:∀ p ∈ τ,p < q.length) (hτl:τ.length = q.length):∀ (d j:Nat) (E:Rat) (D:Nat) (out:List S23),j + d = τ.length → out.length = q.length → OkE E D d →
  Ev (fun k=>shares_equal.l0 k (encL q) out (d:Int) (nI τ) (τ.length:Int) (j:Int) E.num (E.den:Int)) (fin out (τ.drop j) (eqS E ((τ.drop j).map fun i=>q.getD i 0))):=by
 intro d
 induction d with
 | zero =>
  intro j E D out hj _ _
  refine Ev.step (f:=fun _=>some out) (fun k=>?_) ?_
  ·rw [shares_equal.l0,if_neg (by omega)]
  ·rw [List.drop_eq_nil_of_le (by omega)]
   exact Ev.now _
 | succ d ih =>
  intro j E D out hj ho h
  have hjl:j < τ.length:=by omega
  have hp:=hτ _ (List.getElem_mem hjl)
  have hc:OkC q[τ[j]]:=hq _ (List.getElem_mem hp)
  have hg:q.getD τ[j] 0 = q[τ[j]]:=by simp [hp]
  have hdl:((τ.drop (j + 1)).map fun i=>q.getD i 0).length = d:=by rw [List.length_map,List.length_drop];omega
  rw [List.drop_eq_getElem_cons hjl,List.map_cons,eqS,fin,hdl,hg]
  have e1:=ev_over E (n:=d + 1) (by omega) (Nat.lt_of_le_of_lt h.sm.num (by decide)) (Nat.lt_of_le_of_lt (Nat.le_trans (Nat.mul_le_mul_right _ (den_le_of_dvd h.den h.pos)) (eqD' h)) (by decide))
  have e2:=ev_smaller (hc.sm.fits (over_sm h) (by decide) (by decide))
  have e3:=ev_minus (h.sm.fits (min_sm h hc) (by decide) (by decide))
  have e4:=ih (j + 1) _ _ (out.set τ[j] (encQ (min q[τ[j]] (E / ((d + 1:Nat):Rat))))) (by omega) (by rw [List.length_set];exact ho) (h.next hc)
  have hrd:rd_T23 (out.set τ[j] (encQ (min q[τ[j]] (E / ((d + 1:Nat):Rat))))) ((τ[j]:Nat):Int) = encQ (min q[τ[j]] (E / ((d + 1:Nat):Rat))):=by
   unfold rd_T23
   simp [ho,hp]
  have ew:wrap64 (((d + 1:Nat):Int) - 1) = (d:Int):=by unfold wrap64;omega
  have he:(⟨(min q[τ[j]] (E / ((d + 1:Nat):Rat))).num,((min q[τ[j]] (E / ((d + 1:Nat):Rat))).den:Int)⟩:S23) = encQ (min q[τ[j]] (E / ((d + 1:Nat):Rat))):=rfl
  obtain ⟨K1,e1⟩:=e1
  obtain ⟨K2,e2⟩:=e2
  obtain ⟨K3,e3⟩:=e3
  obtain ⟨K4,e4⟩:=e4
  refine ⟨K1 + K2 + K3 + K4 + 1,fun k hk=>?_⟩
  obtain ⟨m,rfl⟩:∃ m,k = m + 1:=⟨k - 1,by omega⟩
  have f1:=e1 m (by omega)
  have f2:=e2 m (by omega)
  have f3:=e3 m (by omega)
  have f4:=e4 m (by omega)
  show shares_equal.l0 (m + 1) _ _ _ _ _ _ _ _ = _
  rw [shares_equal.l0,nI_length,encL_length,if_pos (by omega),if_pos (by omega),if_pos (by omega),rdN hjl,if_pos (by omega),if_pos (by omega),rdE hp,wrap_succ (by omega),ew]
  simp only [encQ,f1,Option.bind_some,f2]
  rw [if_pos (by omega)]
  simp only [he,Int.toNat_natCast,hrd]
  simp only [encQ,f3,Option.bind_some]
  exact f4
theorem ev_equal {E:Rat} (h0:0 ≤ E) (h1:E ≤ tot q) (hd:E.den ∣ 2):∃ x,IsEq q E x ∧ Ev (fun k=>shares_equal.f k (encL q) E.num (E.den:Int)) (encL x):=by
 have hsm:∀ x ∈ q,∀ y ∈ q,Fits x y:=fun x hx y hy=>(hq x hx).sm.fits (hq y hy).sm (by decide) (by decide)
 obtain ⟨τ,hp,hs,hb⟩:=ev_by hsm (by omega)
 have hlt:∀ p ∈ τ,p < q.length:=fun p hpm=>List.mem_range.1 (hp.mem_iff.1 hpm)
 have hl:τ.length = q.length:=by rw [hp.length_eq,List.length_range]
 have hmap:(List.range q.length).map (fun i=>q.getD i 0) = q:=by
  refine List.ext_getElem (by simp) fun i hi1 hi2=>?_
  rw [List.getElem_map,List.getElem_range]
  simp [hi2]
 have hpm:(τ.map fun i=>q.getD i 0).Perm q:=by
  have:=hp.map (fun i=>q.getD i 0)
  rw [hmap] at this
  exact this
 have ht:tot (τ.map fun i=>q.getD i 0) = tot q:=tot_perm hpm
 have hpos:∀ c ∈ τ.map fun i=>q.getD i 0,0 ≤ c:=fun c hc=>(hq c (hpm.mem_iff.1 hc)).lo
 obtain ⟨L,k1,k2,_⟩:=eqS_spec (τ.map fun i=>q.getD i 0) E hs h0 (by rw [ht];exact h1) hpos
 have hq0:∀ c ∈ q,0 ≤ c:=fun c hc=>(hq c hc).lo
 have hE:E ≤ ((10000:Nat):Rat):=by
  have a1:tot q ≤ tot (q.map fun _=>((1000:Nat):Rat)):=by
   have:=tot_le (f:=fun c=>c) (g:=fun _=>((1000:Nat):Rat)) (l:=q) (fun c hc=>(hq c hc).hi)
   rwa [List.map_id'] at this
  rw [tot_const] at a1
  have a2:(q.length:Rat) * ((1000:Nat):Rat) ≤ ((10000:Nat):Rat):=by
   have:((q.length * 1000:Nat):Rat) ≤ ((10000:Nat):Rat):=Rat.natCast_le_natCast.2 (by omega)
   push_cast at this ⊢
   exact this
  grind
 have hfac:2 * fac q.length ≤ 7257600:=by
  have:=fac_mono hn
  have e:fac 10 = 3628800:=by decide
  omega
 have hok:OkE E 2 q.length:=⟨h0,hE,hd,Nat.dvd_refl _,by omega,hfac⟩
 have hev:=equal_l0 hq hn τ hlt hl q.length 0 E 2 (List.replicate q.length z23) (by omega) (by simp) hok
 rw [List.drop_zero,k1,List.map_map] at hev
 refine ⟨q.map fun c=>min c L,⟨L,rfl,?_⟩,?_⟩
 ·rw [← k2,k1]
  exact (tot_perm (hpm.map _)).symm
 ·have e:fin (List.replicate q.length z23) τ (τ.map ((fun c=>min c L) ∘ fun i=>q.getD i 0)) = encL (q.map fun c=>min c L):=by
   refine List.ext_getElem (by rw [fin_length,encL_length];simp) fun i hi1 hi2=>?_
   have hiq:i < q.length:=by rw [encL_length,List.length_map] at hi2;exact hi2
   have:=fin_get ((fun c=>min c L) ∘ fun i=>q.getD i 0) τ (List.replicate q.length z23) i (by simpa using hiq)
   rw [if_pos (hp.mem_iff.2 (List.mem_range.2 hiq))] at this
   rw [List.getD_eq_getElem?_getD,List.getElem?_eq_getElem hi1,Option.getD_some] at this
   rw [this,encL_get (by simpa using hiq),List.getElem_map]
   simp [hiq]
  rw [e] at hev
  unfold shares_equal.f
  rw [encL_length]
  refine Ev.congr (fun k=>if_pos (by omega)) ?_
  refine Ev.congr (fun k=>if_pos (by omega)) ?_
  refine Ev.bind hb ?_
  rw [nI_length,Int.toNat_natCast]
  rw [hl] at hev ⊢
  exact hev
end
end Go.Proofs.Ytjohcjfmlhihbaa.P
namespace Go.Proofs.Ytjohcjfmlhihbaa.P
open Go Go.RowKit Go.Proofs.Ytjohcjfmlhihbaa.G
open Go.Proofs.YtjohcjfmlhihbaaW.PrintWords Go.Proofs.YtjohcjfmlhihbaaW.PrintMore
theorem tot_den {D:Nat} (h0:0 < D):∀ {l:List Rat},(∀ c ∈ l,c.den ∣ D) → (tot l).den ∣ D
 | [],_=>Nat.one_dvd _
 | a :: l,h=>add_den_dvd' (h a (by simp)) (tot_den h0 (fun c hc=>h c (List.mem_cons_of_mem _ hc))) h0
theorem tot_min (L:Rat):∀ l:List Rat,tot (l.map fun c=>min c L) = tot (l.map fun c=>if c ≤ L then c else 0) + ((l.countP fun c=>decide (L < c):Nat):Rat) * L
 | []=>by simp [tot_nil];grind
 | a :: l=>by
  rw [List.map_cons,List.map_cons,tot_cons,tot_cons,tot_min L l,List.countP_cons,Rat.min_def]
  by_cases h:a ≤ L
  ·have h':¬ L < a:=by grind
   rw [if_pos h,if_pos h,if_neg (by simpa using h')]
   push_cast;grind
  ·have h':L < a:=by grind
   rw [if_neg h,if_neg h,if_pos (by simpa using h')]
   push_cast;grind
theorem IsEq.den {l:List Rat} {E:Rat} {x:List Rat} (h:IsEq l E x) {D:Nat} (h0:0 < D) (hl:∀ c ∈ l,c.den ∣ D) (hE:E.den ∣ D):∀ y ∈ x,∃ m,1 ≤ m ∧ m ≤ l.length ∧ y.den ∣ D * m:=by
 obtain ⟨L,rfl,ht⟩:=h
 intro y hy
 obtain ⟨c,hc,rfl⟩:=List.mem_map.1 hy
 have hlen:1 ≤ l.length:=List.length_pos_iff.2 (List.ne_nil_of_mem hc)
 rw [Rat.min_def]
 by_cases h1:c ≤ L
 ·rw [if_pos h1]
  exact ⟨1,Nat.le_refl _,hlen,by rw [Nat.mul_one];exact hl c hc⟩
 ·rw [if_neg h1]
  obtain ⟨m,hm⟩:∃ m,l.countP (fun c=>decide (L < c)) = m:=⟨_,rfl⟩
  have hm1:1 ≤ m:=by
   rw [← hm]
   exact List.countP_pos_iff.2 ⟨c,hc,by simp;grind⟩
  have hm2:m ≤ l.length:=by rw [← hm];exact List.countP_le_length
  rw [tot_min,hm] at ht
  have hS:(tot (l.map fun c=>if c ≤ L then c else 0)).den ∣ D:=tot_den h0 (fun z hz=>by
   obtain ⟨d,hd,rfl⟩:=List.mem_map.1 hz
   split
   ·exact hl d hd
   ·exact Nat.one_dvd _)
  have hp:=nat_pos_rat (n:=m) (by omega)
  have hL:L = (E - tot (l.map fun c=>if c ≤ L then c else 0)) / (m:Rat):=by
   rw [← ht]
   have:(tot (l.map fun c=>if c ≤ L then c else 0) + (m:Rat) * L - tot (l.map fun c=>if c ≤ L then c else 0)) = L * (m:Rat):=by grind
   rw [this]
   exact (Rat.mul_div_cancel (by grind)).symm
  refine ⟨m,hm1,hm2,?_⟩
  rw [hL]
  exact Nat.dvd_trans (over_den _ (by omega)) (Nat.mul_dvd_mul_right (sub_den_dvd' hE hS h0) _)
theorem IsEq.den2 {l:List Rat} {E:Rat} {x:List Rat} (h:IsEq l E x) {D:Nat} (h0:0 < D) (hl:∀ c ∈ l,c.den ∣ D) (hE:E.den ∣ D) (hlen:1 ≤ l.length):∃ m,1 ≤ m ∧ m ≤ l.length ∧ ∀ y ∈ x,y.den ∣ D * m:=by
 obtain ⟨L,rfl,ht⟩:=h
 by_cases hall:∀ c ∈ l,c ≤ L
 ·refine ⟨1,Nat.le_refl _,hlen,fun y hy=>?_⟩
  obtain ⟨c,hc,rfl⟩:=List.mem_map.1 hy
  rw [Rat.min_def,if_pos (hall c hc),Nat.mul_one]
  exact hl c hc
 ·have hex:∃ c ∈ l,¬ c ≤ L:=by
   apply Classical.byContradiction
   intro hno
   exact hall fun c hc=>Classical.byContradiction fun hcl=>hno ⟨c,hc,hcl⟩
  obtain ⟨d,hd,hdL⟩:=hex
  obtain ⟨m,hm⟩:∃ m,l.countP (fun c=>decide (L < c)) = m:=⟨_,rfl⟩
  have hm1:1 ≤ m:=by
   rw [← hm]
   exact List.countP_pos_iff.2 ⟨d,hd,by simp;grind⟩
  have hm2:m ≤ l.length:=by rw [← hm];exact List.countP_le_length
  rw [tot_min,hm] at ht
  have hS:(tot (l.map fun c=>if c ≤ L then c else 0)).den ∣ D:=tot_den h0 (fun z hz=>by
   obtain ⟨d,hd,rfl⟩:=List.mem_map.1 hz
   split
   ·exact hl d hd
   ·exact Nat.one_dvd _)
  have hp:=nat_pos_rat (n:=m) (by omega)
  have hL:L = (E - tot (l.map fun c=>if c ≤ L then c else 0)) / (m:Rat):=by
   rw [← ht]
   have:(tot (l.map fun c=>if c ≤ L then c else 0) + (m:Rat) * L - tot (l.map fun c=>if c ≤ L then c else 0)) = L * (m:Rat):=by grind
   rw [this]
   exact (Rat.mul_div_cancel (by grind)).symm
  have hLd:L.den ∣ D * m:=by
   rw [hL]
   exact Nat.dvd_trans (over_den _ (by omega)) (Nat.mul_dvd_mul_right (sub_den_dvd' hE hS h0) _)
  refine ⟨m,hm1,hm2,fun y hy=>?_⟩
  obtain ⟨c,hc,rfl⟩:=List.mem_map.1 hy
  rw [Rat.min_def]
  split
  ·exact Nat.dvd_trans (hl c hc) (Nat.dvd_mul_right _ _)
  ·exact hLd
def cl (l:List Int):List Rat:=l.map fun n:Int=>(n:Rat)
theorem cl_length (l:List Int):(cl l).length = l.length:=List.length_map _
theorem tot_cl (l:List Int):tot (cl l) = (sI l:Rat):=cast_sum l
theorem int_rat_le {a b:Int}:(a:Rat) ≤ (b:Rat) ↔ a ≤ b:=Rat.intCast_le_intCast
theorem okC_int {n:Int} (h:0 ≤ n ∧ n ≤ 1000):OkC (n:Rat) :=
 ⟨by have:=int_rat_le.2 h.1;simpa using this,by have:=int_rat_le.2 h.2;simpa using this,by rw [whole_den];exact Nat.one_dvd _⟩
theorem okC_half {n:Int} (h:0 ≤ n ∧ n ≤ 1000):OkC ((n:Rat) / 2):=by
 have h0:=(okC_int h).lo
 have h1:=(okC_int h).hi
 have:=over_le (E:=(n:Rat)) (n:=2) (by omega) h0
 have e:((2:Nat):Rat) = 2:=rfl
 rw [e] at this
 refine ⟨this.1,Rat.le_trans this.2 h1,?_⟩
 have hd:=over_den (n:Rat) (n:=2) (by omega)
 rw [e,whole_den] at hd
 exact hd
theorem cl_okC {l:List Int} (h:IsCl l):∀ c ∈ cl l,OkC c:=fun c hc=>by
 obtain ⟨n,hn,rfl⟩:=List.mem_map.1 hc
 exact okC_int (h.mem n hn)
theorem cl_half_okC {l:List Int} (h:IsCl l):∀ c ∈ (cl l).map (· / 2),OkC c:=fun c hc=>by
 obtain ⟨d,hd,rfl⟩:=List.mem_map.1 hc
 obtain ⟨n,hn,rfl⟩:=List.mem_map.1 hd
 exact okC_half (h.mem n hn)
theorem cl_get {l:List Int} {i:Nat} (h:i < l.length):(cl l)[i]'(by rw [cl_length];exact h) = (l[i]:Rat):=List.getElem_map _
theorem take_encL (g:Rat → Rat) (q:List Rat) {i:Nat} (h:i < q.length):encL ((q.take i).map g) ++ [encQ (g q[i])] = encL ((q.take (i + 1)).map g):=by
 rw [List.take_succ_eq_append_getElem h,List.map_append]
 unfold encL
 rw [List.map_append]
 rfl
theorem encL_take_length (g:Rat → Rat) (q:List Rat) (i:Nat):(encL ((q.take i).map g)).length ≤ q.length:=by
 rw [encL_length,List.length_map,List.length_take];omega
section
variable {l:List Int} (h:IsCl l)
include h
theorem whole_l0:∀ (d i:Nat),i + d = l.length → Ev (fun k=>each_whole.l0 k (encL (((cl l).take i).map id)) l (l.length:Int) (i:Int)) (encL ((cl l).map id)):=by
 intro d
 have hl:=h.ten
 induction d with
 | zero =>
  intro i hi
  refine Ev.step (f:=fun _=>some (encL ((cl l).map id))) (fun k=>?_) (Ev.now _)
  rw [each_whole.l0,if_neg (by omega),List.take_of_length_le (by rw [cl_length];omega)]
 | succ d ih =>
  intro i hi
  have hil:i < l.length:=by omega
  have hlen:=encL_take_length id (cl l) i
  rw [cl_length] at hlen
  refine Ev.step (fun k=>?_) (ih (i + 1) (by omega))
  have hic:i < (cl l).length:=by rw [cl_length];exact hil
  have e:(⟨l[i],1⟩:S23) = encQ (id (cl l)[i]):=by rw [cl_get hil];unfold encQ;rw [id,whole_num,whole_den];rfl
  rw [each_whole.l0,if_pos (by omega),if_pos (by omega),if_pos (by omega),rd_get hil]
  simp only [shares_whole.f,Option.bind_some]
  rw [if_pos (by omega),e,take_encL id (cl l) (by rw [cl_length];exact hil),wrap_succ (by omega)]
theorem ev_whole (e:Int):Ev (fun k=>each_whole.f k l e) (encL (cl l)):=by
 have:=whole_l0 h l.length 0 (by omega)
 rw [List.map_id (cl l)] at this
 exact this
theorem halves_l0:∀ (d i:Nat),i + d = l.length → Ev (fun k=>each_halves.l0 k (encL (((cl l).take i).map (· / 2))) l (l.length:Int) (i:Int)) (encL ((cl l).map (· / 2))):=by
 intro d
 have hl:=h.ten
 induction d with
 | zero =>
  intro i hi
  refine Ev.step (f:=fun _=>some (encL ((cl l).map (· / 2)))) (fun k=>?_) (Ev.now _)
  rw [each_halves.l0,if_neg (by omega),List.take_of_length_le (by rw [cl_length];omega)]
 | succ d ih =>
  intro i hi
  have hil:i < l.length:=by omega
  have hlen:=encL_take_length (· / 2) (cl l) i
  rw [cl_length] at hlen
  have hm:=h.mem _ (List.getElem_mem hil)
  obtain ⟨K1,e1⟩:=ev_frac l[i] 2 (by omega) (by omega) (by omega)
  obtain ⟨K2,e2⟩:=ih (i + 1) (by omega)
  refine ⟨K1 + K2 + 1,fun k hk=>?_⟩
  obtain ⟨m,rfl⟩:∃ m,k = m + 1:=⟨k - 1,by omega⟩
  have f1:shares_frac.f m l[i] 2 = _:=e1 m (by omega)
  have f2:=e2 m (by omega)
  have e:(⟨(mkRat l[i] 2).num,((mkRat l[i] 2).den:Int)⟩:S23) = encQ ((cl l)[i]'(by rw [cl_length];exact hil) / 2):=by
   rw [cl_get hil,mk_frac];rfl
  show each_halves.l0 (m + 1) _ _ _ _ = _
  rw [each_halves.l0,if_pos (by omega),if_pos (by omega),if_pos (by omega),rd_get hil]
  simp only [shares_claims_halves_1.f,f1,Option.bind_some]
  rw [if_pos (by omega),e,take_encL (· / 2) (cl l) (by rw [cl_length];exact hil),wrap_succ (by omega)]
  exact f2
theorem ev_halves (e:Int):Ev (fun k=>shares_claims_halves.f k l e) (encL ((cl l).map (· / 2))):=by
 unfold shares_claims_halves.f each_halves.f
 exact Ev.bind (halves_l0 h l.length 0 (by omega)) (Ev.now _)
theorem prop_l0 {E:Int} (h0:0 ≤ E) (h1:E ≤ 10000) {a:Nat} (ha:0 < a) (ha2:a ≤ 10000):∀ (d i:Nat),i + d = l.length → Ev (fun k=>each_prop.l0 E (a:Int) k (encL (((cl l).take i).map fun c=>c * (E:Rat) / (a:Rat))) l (l.length:Int) (i:Int)) (encL ((cl l).map fun c=>c * (E:Rat) / (a:Rat))):=by
 intro d
 have hl:=h.ten
 induction d with
 | zero =>
  intro i hi
  refine Ev.step (f:=fun _=>some (encL ((cl l).map fun c=>c * (E:Rat) / (a:Rat)))) (fun k=>?_) (Ev.now _)
  rw [each_prop.l0,if_neg (by omega),List.take_of_length_le (by rw [cl_length];omega)]
 | succ d ih =>
  intro i hi
  have hil:i < l.length:=by omega
  have hlen:=encL_take_length (fun c=>c * (E:Rat) / (a:Rat)) (cl l) i
  rw [cl_length] at hlen
  have hm:=h.mem _ (List.getElem_mem hil)
  have hb:(l[i] * E).natAbs ≤ 1000 * 10000:=by
   rw [Int.natAbs_mul];exact Nat.mul_le_mul (by omega) (by omega)
  obtain ⟨K1,e1⟩:=ev_frac (l[i] * E) a ha (by omega) (by omega)
  obtain ⟨K2,e2⟩:=ih (i + 1) (by omega)
  refine ⟨K1 + K2 + 1,fun k hk=>?_⟩
  obtain ⟨m,rfl⟩:∃ m,k = m + 1:=⟨k - 1,by omega⟩
  have f1:=e1 m (by omega)
  have f2:=e2 m (by omega)
  have e:(⟨(mkRat (l[i] * E) a).num,((mkRat (l[i] * E) a).den:Int)⟩:S23) = encQ ((cl l)[i]'(by rw [cl_length];exact hil) * (E:Rat) / (a:Rat)):=by
   rw [cl_get hil,mk_frac];push_cast;rfl
  show each_prop.l0 _ _ (m + 1) _ _ _ _ = _
  rw [each_prop.l0,if_pos (by omega),if_pos (by omega),if_pos (by omega),rd_get hil]
  simp only [prop_1.f]
  rw [wrap_abs (by omega:(l[i] * E).natAbs < _)]
  simp only [f1,Option.bind_some]
  rw [if_pos (by omega),e,take_encL (fun c=>c * (E:Rat) / (a:Rat)) (cl l) (by rw [cl_length];exact hil),wrap_succ (by omega)]
  exact f2
theorem losses_l0 {g:Rat → Rat} (hg:∀ n:Int,0 ≤ n ∧ n ≤ 1000 → n ∈ l → Sm 20000 20 (g (n:Rat))):∀ (d i:Nat),i + d = l.length → Ev (fun k=>shares_claims_losses.l0 k (encL ((cl l).map g)) (encL (((cl l).take i).map fun c=>c - g c)) l (l.length:Int) (i:Int)) (encL ((cl l).map fun c=>c - g c)):=by
 intro d
 have hl:=h.ten
 induction d with
 | zero =>
  intro i hi
  refine Ev.step (f:=fun _=>some (encL ((cl l).map fun c=>c - g c))) (fun k=>?_) (Ev.now _)
  rw [shares_claims_losses.l0,if_neg (by omega),List.take_of_length_le (by rw [cl_length];omega)]
 | succ d ih =>
  intro i hi
  have hil:i < l.length:=by omega
  have hic:i < (cl l).length:=by rw [cl_length];exact hil
  have hlen:=encL_take_length (fun c=>c - g c) (cl l) i
  rw [cl_length] at hlen
  have hm:=h.mem _ (List.getElem_mem hil)
  have e1:=ev_minus ((Sm.int (n:=l[i]) (A:=1000) (by omega)).fits (hg _ hm (List.getElem_mem hil)) (by decide) (by decide))
  rw [whole_num,whole_den] at e1
  obtain ⟨K1,e1⟩:=e1
  obtain ⟨K2,e2⟩:=ih (i + 1) (by omega)
  refine ⟨K1 + K2 + 1,fun k hk=>?_⟩
  obtain ⟨m,rfl⟩:∃ m,k = m + 1:=⟨k - 1,by omega⟩
  have f1:shares_minus.f m l[i] 1 _ _ = _:=e1 m (by omega)
  have f2:=e2 m (by omega)
  have hrd:rd_T23 (encL ((cl l).map g)) (i:Int) = encQ (g (l[i]:Rat)):=by
   rw [rdE (by rw [List.length_map];exact hic),List.getElem_map,cl_get hil]
  have e:(⟨((l[i]:Rat) - g (l[i]:Rat)).num,(((l[i]:Rat) - g (l[i]:Rat)).den:Int)⟩:S23) = encQ ((fun c=>c - g c) (cl l)[i]):=by
   rw [cl_get hil];rfl
  show shares_claims_losses.l0 (m + 1) _ _ _ _ _ = _
  rw [shares_claims_losses.l0,if_pos (by omega),if_pos (by omega),if_pos (by omega),rd_get hil,encL_length,List.length_map,cl_length]
  simp only [shares_whole.f,Option.bind_some]
  rw [if_pos (by omega),hrd]
  simp only [encQ,f1,Option.bind_some]
  rw [if_pos (by omega),e,take_encL (fun c=>c - g c) (cl l) hic,wrap_succ (by omega)]
  exact f2
theorem talmud_l0 {g:Rat → Rat} (hg:∀ n:Int,0 ≤ n ∧ n ≤ 1000 → n ∈ l → Sm 20000 20 (g (n:Rat))):∀ (d i:Nat),i + d = l.length → Ev (fun k=>shares_claims_talmud.l0 k (encL ((cl l).map g)) (encL (((cl l).take i).map fun c=>c - g c)) l (l.length:Int) (i:Int)) (encL ((cl l).map fun c=>c - g c)):=by
 intro d
 have hl:=h.ten
 induction d with
 | zero =>
  intro i hi
  refine Ev.step (f:=fun _=>some (encL ((cl l).map fun c=>c - g c))) (fun k=>?_) (Ev.now _)
  rw [shares_claims_talmud.l0,if_neg (by omega),List.take_of_length_le (by rw [cl_length];omega)]
 | succ d ih =>
  intro i hi
  have hil:i < l.length:=by omega
  have hic:i < (cl l).length:=by rw [cl_length];exact hil
  have hlen:=encL_take_length (fun c=>c - g c) (cl l) i
  rw [cl_length] at hlen
  have hm:=h.mem _ (List.getElem_mem hil)
  have e1:=ev_minus ((Sm.int (n:=l[i]) (A:=1000) (by omega)).fits (hg _ hm (List.getElem_mem hil)) (by decide) (by decide))
  rw [whole_num,whole_den] at e1
  obtain ⟨K1,e1⟩:=e1
  obtain ⟨K2,e2⟩:=ih (i + 1) (by omega)
  refine ⟨K1 + K2 + 1,fun k hk=>?_⟩
  obtain ⟨m,rfl⟩:∃ m,k = m + 1:=⟨k - 1,by omega⟩
  have f1:shares_minus.f m l[i] 1 _ _ = _:=e1 m (by omega)
  have f2:=e2 m (by omega)
  have hrd:rd_T23 (encL ((cl l).map g)) (i:Int) = encQ (g (l[i]:Rat)):=by
   rw [rdE (by rw [List.length_map];exact hic),List.getElem_map,cl_get hil]
  have e:(⟨((l[i]:Rat) - g (l[i]:Rat)).num,(((l[i]:Rat) - g (l[i]:Rat)).den:Int)⟩:S23) = encQ ((fun c=>c - g c) (cl l)[i]):=by
   rw [cl_get hil];rfl
  show shares_claims_talmud.l0 (m + 1) _ _ _ _ _ = _
  rw [shares_claims_talmud.l0,if_pos (by omega),if_pos (by omega),if_pos (by omega),rd_get hil,encL_length,List.length_map,cl_length]
  simp only [shares_whole.f,Option.bind_some]
  rw [if_pos (by omega),hrd]
  simp only [encQ,f1,Option.bind_some]
  rw [if_pos (by omega),e,take_encL (fun c=>c - g c) (cl l) hic,wrap_succ (by omega)]
  exact f2
end
theorem piniles_l0 {q:List Rat} (hq:∀ c ∈ q,OkC c) (hl:q.length ≤ 10) {g:Rat → Rat} (hg:∀ c ∈ q,Sm 20000 20 (g c)):∀ (d i:Nat),i + d = q.length → Ev (fun k=>shares_claims_piniles.l0 k (encL (q.map g)) (encL ((q.take i).map fun c=>c + g c)) (encL q) (q.length:Int) (i:Int)) (encL (q.map fun c=>c + g c)):=by
 intro d
 induction d with
 | zero =>
  intro i hi
  refine Ev.step (f:=fun _=>some (encL (q.map fun c=>c + g c))) (fun k=>?_) (Ev.now _)
  rw [shares_claims_piniles.l0,if_neg (by omega),List.take_of_length_le (by omega)]
 | succ d ih =>
  intro i hi
  have hil:i < q.length:=by omega
  have hlen:=encL_take_length (fun c=>c + g c) q i
  have e1:=ev_add ((hq _ (List.getElem_mem hil)).sm.fits (hg _ (List.getElem_mem hil)) (by decide) (by decide))
  obtain ⟨K1,e1⟩:=e1
  obtain ⟨K2,e2⟩:=ih (i + 1) (by omega)
  refine ⟨K1 + K2 + 1,fun k hk=>?_⟩
  obtain ⟨m,rfl⟩:∃ m,k = m + 1:=⟨k - 1,by omega⟩
  have f1:=e1 m (by omega)
  have f2:=e2 m (by omega)
  have hrd:rd_T23 (encL (q.map g)) (i:Int) = encQ (g q[i]):=by rw [rdE (by rw [List.length_map];exact hil),List.getElem_map]
  have e:(⟨(q[i] + g q[i]).num,((q[i] + g q[i]).den:Int)⟩:S23) = encQ ((fun c=>c + g c) q[i]):=rfl
  show shares_claims_piniles.l0 (m + 1) _ _ _ _ _ = _
  rw [shares_claims_piniles.l0,encL_length,encL_length,List.length_map,if_pos (by omega),if_pos (by omega),if_pos (by omega),if_pos (by omega),rdE hil,hrd]
  simp only [encQ,f1,Option.bind_some]
  rw [if_pos (by omega),e,take_encL (fun c=>c + g c) q hil,wrap_succ (by omega)]
  exact f2
end Go.Proofs.Ytjohcjfmlhihbaa.P
namespace Go.Proofs.Ytjohcjfmlhihbaa.G
open Go.RowKit Go.Proofs.YtjohcjfmlhihbaaW.PrintWords Go.Proofs.YtjohcjfmlhihbaaW.PrintLast Go.Proofs.YtjohcjfmlhihbaaW.PrintMore
set_option maxHeartbeats 8000000
set_option maxRecDepth 100000
attribute [local go_sem] cond_true cond_false fld23_0 fld23_1 fld45_0 fld45_1 fld109_0 fld109_1 fld94_0 fld94_1 max2_int min2_int max_two min_two max_three min_three max_four min_four
mutual
def numnahref07_equal.l0:Nat → List Int → Int → List (S23) → List Bool → Int → Int → Option ((List (S23)))
 | 0,_,_,_,_,_,_=>none
 | k + 1,x0,x1,x5,x6,x7,x8=>if x8 < (x0.length:Int) then (if 0 ≤ x8 then (if x8 < (x6.length:Int) then (if rdOf false x6 x8 = true then (numnahref07_equal.l0 k x0 x1 x5 x6 x7 (wrap64 (x8 + 1))) else (if (wrap64 ((rd x0 x8) * x7)) > x1 then (numnahref07_equal.l0 k x0 x1 x5 x6 x7 (wrap64 (x8 + 1))) else ((numnahref07_Whole.f (rd x0 x8)).bind fun bt711=>(if x8 < (x5.length:Int) then (numnahref07_equal.l0 k x0 (wrap64 (x1 - (rd x0 x8))) (x5.set (x8:Int).toNat (⟨bt711.1,bt711.2⟩:S23)) (x6.set (x8:Int).toNat true) (wrap64 (x7 - 1)) 0) else (none))))) else (none)) else (none)) else (numnahref07_equal.l1 k x0 x1 x5 x6 x7 0)
def numnahref07_equal.l1:Nat → List Int → Int → List (S23) → List Bool → Int → Int → Option ((List (S23)))
 | 0,_,_,_,_,_,_=>none
 | k + 1,x0,x1,x5,x6,x7,x9=>if x9 < (x0.length:Int) then (if 0 ≤ x9 then (if x9 < (x6.length:Int) then (if rdOf false x6 x9 = true then (numnahref07_equal.l1 k x0 x1 x5 x6 x7 (wrap64 (x9 + 1))) else ((numnahref07_Reduced.f k x1 x7).bind fun bt716=>(if x9 < (x5.length:Int) then (numnahref07_equal.l1 k x0 x1 (x5.set (x9:Int).toNat (⟨bt716.1,bt716.2⟩:S23)) x6 x7 (wrap64 (x9 + 1))) else (none)))) else (none)) else (none)) else (some x5)
end
def numnahref07_equal.f (k:Nat) (l0:List Int) (a1:Int):Option ((List (S23))):=if 0 ≤ (l0.length:Int) then (if ((l0.length:Int):Int).toNat ≤ 17592186044416 then (if ((l0.length:Int):Int).toNat ≤ 281474976710656 then (numnahref07_equal.l0 k l0 a1 (List.replicate ((l0.length:Int):Int).toNat z23) (List.replicate ((l0.length:Int):Int).toNat false) (l0.length:Int) 0) else (none)) else (none)) else (none)
theorem numnahref07_equal.mono_l:∀ k,(∀ y0 y1 y2 y3 y4 y5,LeO (numnahref07_equal.l0 k y0 y1 y2 y3 y4 y5) (numnahref07_equal.l0 (k + 1) y0 y1 y2 y3 y4 y5)) ∧ (∀ y0 y1 y2 y3 y4 y5,LeO (numnahref07_equal.l1 k y0 y1 y2 y3 y4 y5) (numnahref07_equal.l1 (k + 1) y0 y1 y2 y3 y4 y5))
 | 0=>⟨fun _ _ _ _ _ _ r h=>by simp [numnahref07_equal.l0] at h,fun _ _ _ _ _ _ r h=>by simp [numnahref07_equal.l1] at h⟩
 | k + 1=>by
  obtain ⟨ih0,ih1⟩:=numnahref07_equal.mono_l k
  refine ⟨?_,?_⟩
  ·intro y0 y1 y2 y3 y4 y5
   unfold numnahref07_equal.l0
   repeat' first
   | (with_reducible first | exact ih0 _ _ _ _ _ _ | exact ih1 _ _ _ _ _ _ | exact numnahref07_Reduced.mono _ _ _ | exact LeO.refl _ | exact LeO.none _ | refine LeO.ite ?_ ?_ | refine LeO.bind ?_ (fun _=>?_))
   | exact LeO.none _ | refine LeO.ite ?_ ?_ | refine LeO.bind ?_ (fun _=>?_)
  intro y0 y1 y2 y3 y4 y5
  unfold numnahref07_equal.l1
  repeat' first
  | (with_reducible first | exact ih0 _ _ _ _ _ _ | exact ih1 _ _ _ _ _ _ | exact numnahref07_Reduced.mono _ _ _ | exact LeO.refl _ | exact LeO.none _ | refine LeO.ite ?_ ?_ | refine LeO.bind ?_ (fun _=>?_))
  | exact LeO.none _ | refine LeO.ite ?_ ?_ | refine LeO.bind ?_ (fun _=>?_)
theorem numnahref07_equal.mono:∀ a0 a1 k,LeO (numnahref07_equal.f k a0 a1) (numnahref07_equal.f (k + 1) a0 a1):=by
 intro a0 a1 k
 obtain ⟨ih0,ih1⟩:=numnahref07_equal.mono_l k
 unfold numnahref07_equal.f
 repeat' first
   | (with_reducible first | exact ih0 _ _ _ _ _ _ | exact ih1 _ _ _ _ _ _ | exact numnahref07_Reduced.mono _ _ _ | exact LeO.refl _ | exact LeO.none _ | refine LeO.ite ?_ ?_ | refine LeO.bind ?_ (fun _=>?_))
   | exact LeO.none _ | refine LeO.ite ?_ ?_ | refine LeO.bind ?_ (fun _=>?_)
theorem numnahref07_equal.calls (k:Nat) (A0:Option Addr) (c0:Nat) (l0:List Int) (a1:Int) (r:List (S23)) (w:World) (hr0:Kd.C (Kd.int .i64) w A0 l0.length l0) (hc0:l0.length ≤ c0) (h:numnahref07_equal.f k l0 a1 = some r) :
  Calls Try.prog 75 #[.slice A0 l0.length c0,.int .i64 a1] w fun e w'=>∃ v0_:Value,e = .returned (v0_) ∧ Kd.R k23 23 w' w.heap.size (fun _=>True) v0_ r ∧ Below w.heap.size w w':=by
 have hu23:=Try.underlying23
 have HR0:=A_ hr0
 have HC0:=A_ hc0
 clear hr0 hc0
 have HB:=A_ (Below.refl w.heap.size w)
 have H:(if 0 ≤ (l0.length:Int) then (if ((l0.length:Int):Int).toNat ≤ 17592186044416 then (if ((l0.length:Int):Int).toNat ≤ 281474976710656 then (numnahref07_equal.l0 k l0 a1 (List.replicate ((l0.length:Int):Int).toNat z23) (List.replicate ((l0.length:Int):Int).toNat false) (l0.length:Int) 0) else (none)) else (none)) else (none)) = some r:=h
 clear h
 replace H:=gd H
 obtain ⟨c3,H⟩:=H
 have c3b0:=eq_true c3
 have c3b1:=decide_eq_true c3
 clear c3
 replace H:=gd H
 obtain ⟨c4,H⟩:=H
 have c4b0:=eq_true c4
 have c4b1:=decide_eq_true c4
 clear c4
 obtain ⟨y701,hy701⟩:∃ y_:List (S23),y_ = (List.replicate ((l0.length:Int):Int).toNat z23):=⟨_,rfl⟩
 rw [← hy701] at H
 have Ny701:=A_ hy701
 clear hy701
 replace H:=gd H
 obtain ⟨c5,H⟩:=H
 have c5b0:=eq_true c5
 have c5b1:=decide_eq_true c5
 clear c5
 obtain ⟨y704,hy704⟩:∃ y_:List Bool,y_ = (List.replicate ((l0.length:Int):Int).toNat false):=⟨_,rfl⟩
 rw [← hy704] at H
 have Ny704:=A_ hy704
 clear hy704
 have H':=A_ H
 clear H
 go_enter Try.func75,Try.ntmps75
 go_wp2_with (first | ((with_reducible refine gate_dst (N:=12) rfl ?_);refine Kd.R_make k23 _ 23 rfl (N:=12) rfl 35 _ _ rfl (l0.length:Int) rfl rfl Try.underlying35 (.agg #[(.int .i64 0),(.int .i64 0)]) 16 info23 rfl (by decide) (by omega) z23 (ok:=fun _=>True) (okp:=fun _=>True) (k23_mkM _ _ _ z23 ) (fun _ hk=>hk) trivial (of_decide_eq_true (by first | (with_reducible assumption) | assumption)) (Nat.le_trans (Nat.mul_le_mul_right _ (of_decide_eq_true (by first | (with_reducible assumption) | assumption):(l0.length:Int).toNat ≤ 17592186044416)) (by omega)) (Below.refl _ _) (Nat.le_refl _) ?_;intro v702 w6 ho7 hb hg_ hnew_;clear hg_ hnew_;(first | rw [← Ny701.out] at ho7 | (simp only [Int.reduceToNat] at ho7;rw [← Ny701.out] at ho7));have HO703:=A_ (Kd.R_lower ho7 (below_size (bl HB)));replace HB:=bB HB hb;clear hb ho7) | ((with_reducible refine gate_dst (N:=15) rfl ?_);refine Kd.R_make Kd.bool _ 4 rfl (N:=15) rfl 115 _ _ rfl (l0.length:Int) rfl rfl Try.underlying115 (.bool false) 1 info4 rfl (by decide) (by omega) false (ok:=fun _=>True) (okp:=fun _=>True) rfl (fun _ hk=>hk) trivial (of_decide_eq_true (by first | (with_reducible assumption) | assumption)) (Nat.le_trans (Nat.mul_le_mul_right _ (of_decide_eq_true (by first | (with_reducible assumption) | assumption):(l0.length:Int).toNat ≤ 281474976710656)) (by omega)) (Below.refl _ _) (Nat.le_refl _) ?_;intro v705 w8 ho9 hb hg_ hnew_;clear hg_ hnew_;(first | rw [← Ny704.out] at ho9 | (simp only [Int.reduceToNat] at ho9;rw [← Ny704.out] at ho9));have HO706:=A_ (Kd.R_lower ho9 (below_size (bl HB)));replace HO703:=rB HO703 hb;replace HB:=bB HB hb;clear hb ho9))
 go_loopg [1,7,8] k (fun kq v1 v7 v8 w'=>∃ (x1_1:Int) (x5_1:List (S23)) (x6_1:List Bool) (x7_1:Int) (x8_1:Int),v1 = .int .i64 x1_1 ∧ v7 = .int .i64 x7_1 ∧ v8 = .int .i64 x8_1 ∧ Aside0 (numnahref07_equal.l0 kq l0 x1_1 x5_1 x6_1 x7_1 x8_1 = some r) ∧ Aside0 (kq ≤ k) ∧ Aside0 (Kd.R k23 23 w' w.heap.size (fun _=>True) v702 x5_1) ∧ Aside0 (Kd.R Kd.bool 4 w' w.heap.size (fun _=>True) v705 x6_1) ∧ Aside0 (Below w.heap.size w w'))
 case atStart=>exact ⟨(a1),(y701),(y704),((l0.length:Int)),(0),(by first | rfl | (simp;done) | (simp [*];done)),(by first | rfl | (simp;done) | (simp [*];done)),(by first | rfl | (simp;done) | (simp [*];done)),H',⟨Nat.le_refl _⟩,⟨by (with_reducible repeat (first | apply Kd.R_alloc | apply Kd.R_drewN | apply Kd.R_drew));exact HO703.out⟩,⟨by (with_reducible repeat (first | apply Kd.R_alloc | apply Kd.R_drewN | apply Kd.R_drew));exact HO706.out⟩,⟨bl HB⟩⟩
 case round =>
  clear H'
  obtain ⟨x1_1,x5_1,x6_1,x7_1,x8_1,rfl,rfl,rfl,HA,HK1,HO_5,HO_6,HB⟩:=hrel
  cases gk with
  | zero=>exact absurd HA.out (by simp [numnahref07_equal.l0])
  | succ k1 =>
   have H:=HA.out
   clear HA
   simp only [numnahref07_equal.l0] at H
   by_cases c10:x8_1 < (l0.length:Int)
   case neg =>
    rw [if_neg c10] at H
    have c10b0:=decide_eq_false c10
    clear c10
    have H':=A_ H
    clear H
    go_wp2
    go_loopg [9] k1 (fun kq v9 w'=>∃ (x5_2:List (S23)) (x9_2:Int),v9 = .int .i64 x9_2 ∧ Aside0 (numnahref07_equal.l1 kq l0 x1_1 x5_2 x6_1 x7_1 x9_2 = some r) ∧ Aside0 (kq ≤ k1) ∧ Aside0 (Kd.R k23 23 w' w.heap.size (fun _=>True) v702 x5_2) ∧ Aside0 (Kd.R Kd.bool 4 w' w.heap.size (fun _=>True) v705 x6_1) ∧ Aside0 (Below w.heap.size w w'))
    case atStart=>exact ⟨(x5_1),(0),(by first | rfl | (simp;done) | (simp [*];done)),H',⟨Nat.le_refl _⟩,⟨by (with_reducible repeat (first | apply Kd.R_alloc | apply Kd.R_drewN | apply Kd.R_drew));exact HO_5.out⟩,⟨by (with_reducible repeat (first | apply Kd.R_alloc | apply Kd.R_drewN | apply Kd.R_drew));exact HO_6.out⟩,⟨bl HB⟩⟩
    case round =>
     clear H'
     obtain ⟨x5_2,x9_2,rfl,HA,HK2,HO_5,HO_6,HB⟩:=hrel
     cases gk with
     | zero=>exact absurd HA.out (by simp [numnahref07_equal.l1])
     | succ k2 =>
      have H:=HA.out
      clear HA
      simp only [numnahref07_equal.l1] at H
      by_cases c28:x9_2 < (l0.length:Int)
      case neg =>
       rw [if_neg c28] at H
       have c28b0:=decide_eq_false c28
       clear c28
       obtain rfl:=Option.some.inj H
       go_wp2
       go_ret
       exact ⟨_,by first | rfl | (simp [errW_none,errW_some] <;> rfl) | (simp [*,errW_none,errW_some] <;> rfl),by (with_reducible repeat (first | apply Kd.R_alloc | apply Kd.R_drewN | apply Kd.R_drew));exact HO_5.out,bl HB⟩
      rw [if_pos c28] at H
      have c28b0:=decide_eq_true c28
      clear c28
      replace H:=gd H
      obtain ⟨c29,H⟩:=H
      have c29b0:=decide_eq_true c29
      clear c29
      replace H:=gd H
      obtain ⟨c30,H⟩:=H
      have c30b0:=decide_eq_true c30
      clear c30
      obtain ⟨bq31,hbq31⟩:∃ b_:Bool,b_ = (rdOf false x6_1 x9_2):=⟨_,rfl⟩
      replace H:(if bq31 = true then (numnahref07_equal.l1 k2 l0 x1_1 x5_2 x6_1 x7_1 (wrap64 (x9_2 + 1))) else ((numnahref07_Reduced.f k2 x1_1 x7_1).bind fun bt716=>(if x9_2 < (x5_2.length:Int) then (numnahref07_equal.l1 k2 l0 x1_1 (x5_2.set (x9_2:Int).toNat (⟨bt716.1,bt716.2⟩:S23)) x6_1 x7_1 (wrap64 (x9_2 + 1))) else (none)))) = some r:=by rw [← hbq31] at H;exact H
      have Nbq31:=A_ hbq31
      clear hbq31
      by_cases c32:bq31 = true
      ·subst c32
       rw [if_pos rfl] at H
       have H':=A_ H
       clear H
       obtain ⟨Ao33,co33,eo33⟩:=Kd.R_slice HO_6.out
       subst eo33
       have p715:0 ≤ (x9_2:Int):=of_decide_eq_true (by first | (with_reducible assumption) | assumption)
       have q715:x9_2 < (x6_1.length:Int):=of_decide_eq_true (by first | (with_reducible assumption) | assumption)
       obtain ⟨ad715,e715,hx715_0⟩:=Kd.at_bool (Kd.R_reads' HO_6.out).2.2 x9_2 p715 q715
       (try rw [← Nbq31.out] at hx715_0)
       cases e715
       replace p715:=eq_true p715
       replace q715:=eq_true q715
       go_wp2
       go_roundg k2
       case measure=>have:=HK1.out;have:=HK2.out;omega
       case rel=>exact ⟨(x5_2),(wrap64 (x9_2 + 1)),(by first | rfl | (simp;done) | (simp [*];done)),H',⟨by have:=HK1.out;have:=HK2.out;omega⟩,⟨by (with_reducible repeat (first | apply Kd.R_alloc | apply Kd.R_drewN | apply Kd.R_drew));exact HO_5.out⟩,⟨by (with_reducible repeat (first | apply Kd.R_alloc | apply Kd.R_drewN | apply Kd.R_drew));exact HO_6.out⟩,⟨bl HB⟩⟩
      replace c32:=Bool.eq_false_iff.mpr c32
      subst c32
      rw [if_neg (show ¬ (false = true) by decide)] at H
      replace H:=Option.bind_eq_some_iff.mp H
      obtain ⟨⟨t716,t717⟩,A340,H⟩:=H
      dsimp only at H
      have A34:=A_ A340
      clear A340
      replace H:=gd H
      obtain ⟨c35,H⟩:=H
      have c35b0:=decide_eq_true c35
      clear c35
      obtain ⟨y718,hy718⟩:∃ y_:List (S23),y_ = (x5_2.set (x9_2:Int).toNat (⟨t716,t717⟩:S23)):=⟨_,rfl⟩
      rw [← hy718] at H
      have Ny718:=A_ hy718
      clear hy718
      have H':=A_ H
      clear H
      obtain ⟨Ao37,co37,eo37⟩:=Kd.R_slice HO_6.out
      subst eo37
      have p715:0 ≤ (x9_2:Int):=of_decide_eq_true (by first | (with_reducible assumption) | assumption)
      have q715:x9_2 < (x6_1.length:Int):=of_decide_eq_true (by first | (with_reducible assumption) | assumption)
      obtain ⟨ad715,e715,hx715_0⟩:=Kd.at_bool (Kd.R_reads' HO_6.out).2.2 x9_2 p715 q715
      (try rw [← Nbq31.out] at hx715_0)
      cases e715
      replace p715:=eq_true p715
      replace q715:=eq_true q715
      go_wp2_with (first | ((with_reducible refine gate_callee (f:=34) rfl ?_);refine gL (some 72) Try.func34 #[.int .i64 x1_1,.int .i64 x7_1] ?_;(with_reducible refine (numnahref07_Reduced.calls k2 x1_1 x7_1 t716 t717 _ A34.out).mono ?_);rintro e w38 ⟨rfl,hb⟩;refine ⟨_,rfl,?_⟩;replace HO_5:=rB HO_5 hb;replace HO_6:=rB HO_6 hb;replace HB:=bB HB hb;(try clear hb);have p36:0 ≤ (x9_2:Int):=of_decide_eq_true (by first | (with_reducible assumption) | assumption);have q36:(x9_2:Int) < ((x5_2.length:Int):Int):=of_decide_eq_true (by first | (with_reducible assumption) | assumption);obtain ⟨go36,co36,eo36,gb36,gl36,cl36,HG36⟩:=Kd.R_form HO_5.out (by omega);(first | cases eo36 | (injection eo36 with ea_ en_ ec_;(first | subst ea_ | (injection ea_ with ea_;subst ea_));subst ec_;clear en_));have GB36:=A_ gb36;have GG36:=A_ HG36;clear gb36 gl36 HG36;obtain ⟨ce36,hcl36,hM36,hcc36,hfr36⟩:=Kd.R_elem HO_5.out z23 (x9_2:Int) p36 q36;obtain rfl:=k23_openM hM36;have hx36_0:w38.cell? ⟨go36,(x9_2:Int).toNat * 2,none⟩ = some (.int .i64 ((rd_T23 x5_2 x9_2).f0)):=hcc36 0 _ rfl;have hx36_1:w38.cell? ⟨go36,(x9_2:Int).toNat * 2 + 1,none⟩ = some (.int .i64 ((rd_T23 x5_2 x9_2).f1)):=hcc36 1 _ rfl;have hf36_0:w38.frozen? ⟨go36,(x9_2:Int).toNat * 2,none⟩ = false:=hfr36 0;have hf36_1:w38.frozen? ⟨go36,(x9_2:Int).toNat * 2 + 1,none⟩ = false:=hfr36 1;clear hcl36 hcc36 hfr36 hM36;replace p36:=eq_true p36;replace q36:=eq_true q36;have HX39:=A_ (show Kd.R k23 23 w38 w.heap.size (fun _=>True) (.slice (some ⟨go36,0,none⟩) x5_2.length co36) x5_2 from (rs HO_5));obtain ⟨ce39,hcl39,hM39,hcc39,hfr39⟩:=Kd.R_elem HX39.out z23 (x9_2:Int) (of_decide_eq_true (by first | (with_reducible assumption) | assumption)) (by have h_:(x9_2:Int) < ((x5_2.length:Int):Int):=of_decide_eq_true (by first | (with_reducible assumption) | assumption);first | exact h_ | (have e_:=(Kd.R_reads' HO_5.out).1;omega) | simpa using h_);obtain rfl:=k23_openM hM39;have HP39:=Kd.R_seg HX39.out (x9_2:Int) (of_decide_eq_true (by first | (with_reducible assumption) | assumption)) (by have h_:(x9_2:Int) < ((x5_2.length:Int):Int):=of_decide_eq_true (by first | (with_reducible assumption) | assumption);first | exact h_ | (have e_:=(Kd.R_reads' HO_5.out).1;omega) | simpa using h_) (seg:=[.int .i64 t716,.int .i64 t717]) (j:=0) hcl39 hcc39 (show 2 ≤ 2 from by decide) (x':=(⟨t716,t717⟩:S23)) (k23_mkM _ _ _ (⟨t716,t717⟩:S23) ) (fun _ hk=>hk);have hx39_0:=hcc39 0 _ rfl;(try simp only [show (k23).sz = 2 from rfl,Nat.mul_one,Nat.add_zero] at hx39_0);have hf39_0:=hfr39 0;(try simp only [show (k23).sz = 2 from rfl,Nat.mul_one,Nat.add_zero] at hf39_0);have hx39_1:=hcc39 1 _ rfl;(try simp only [show (k23).sz = 2 from rfl,Nat.mul_one,Nat.add_zero] at hx39_1);have hf39_1:=hfr39 1;(try simp only [show (k23).sz = 2 from rfl,Nat.mul_one,Nat.add_zero] at hf39_1);clear hcl39 hcc39 hfr39 hM39) | ((with_reducible refine gate_store (t:=23) (p:=73) rfl ?_);refine store_event (t:=23) (p:=73) (v:=?vo_w40) (w1:=((w38.setCell ⟨go36,(x9_2:Int).toNat * 2,none⟩ (.int .i64 t716)).setCell ⟨go36,(x9_2:Int).toNat * 2 + 1,none⟩ (.int .i64 t717))) ?hg ?ho ?hn ?hr ?_;(case ho=>rfl);(case hg=>rfl);(case hn=>rfl);(case hr=>first | (go_simp;done) | (go_simp;rfl));intro w40 hw;have hg:w38.grownBy w40 (some go36):=(by rw [hw];exact HP39.2);have hp_:Kd.R k23 23 w40 w.heap.size (fun _=>True) (.slice (some ⟨go36,0,none⟩) x5_2.length co36) y718:=(by rw [hw,Ny718.out];exact HP39.1);clear HP39;replace HO_6:=A_ (Kd.R_over' (v:=(.slice (some ⟨go36,0,none⟩) x5_2.length co36)) (rs HO_6) (Kd.R_typed HO_5.out) (by decide) hg);replace HO_5:=A_ hp_;replace HB:=A_ ((by rw [hw];exact below_set (below_set (HB.out) GB36.out) GB36.out:Below w.heap.size w w40));clear hg hw hp_))
      go_roundg k2
      case measure=>have:=HK1.out;have:=HK2.out;omega
      case rel=>exact ⟨(y718),(wrap64 (x9_2 + 1)),(by first | rfl | (simp;done) | (simp [*];done)),H',⟨by have:=HK1.out;have:=HK2.out;omega⟩,⟨by (with_reducible repeat (first | apply Kd.R_alloc | apply Kd.R_drewN | apply Kd.R_drew));exact HO_5.out⟩,⟨by (with_reducible repeat (first | apply Kd.R_alloc | apply Kd.R_drewN | apply Kd.R_drew));exact HO_6.out⟩,⟨bl HB⟩⟩
   rw [if_pos c10] at H
   have c10b0:=decide_eq_true c10
   clear c10
   replace H:=gd H
   obtain ⟨c11,H⟩:=H
   have c11b0:=decide_eq_true c11
   clear c11
   replace H:=gd H
   obtain ⟨c12,H⟩:=H
   have c12b0:=decide_eq_true c12
   clear c12
   obtain ⟨bq13,hbq13⟩:∃ b_:Bool,b_ = (rdOf false x6_1 x8_1):=⟨_,rfl⟩
   replace H:(if bq13 = true then (numnahref07_equal.l0 k1 l0 x1_1 x5_1 x6_1 x7_1 (wrap64 (x8_1 + 1))) else (if (wrap64 ((rd l0 x8_1) * x7_1)) > x1_1 then (numnahref07_equal.l0 k1 l0 x1_1 x5_1 x6_1 x7_1 (wrap64 (x8_1 + 1))) else ((numnahref07_Whole.f (rd l0 x8_1)).bind fun bt711=>(if x8_1 < (x5_1.length:Int) then (numnahref07_equal.l0 k1 l0 (wrap64 (x1_1 - (rd l0 x8_1))) (x5_1.set (x8_1:Int).toNat (⟨bt711.1,bt711.2⟩:S23)) (x6_1.set (x8_1:Int).toNat true) (wrap64 (x7_1 - 1)) 0) else (none))))) = some r:=by rw [← hbq13] at H;exact H
   have Nbq13:=A_ hbq13
   clear hbq13
   by_cases c14:bq13 = true
   ·subst c14
    rw [if_pos rfl] at H
    have H':=A_ H
    clear H
    obtain ⟨Ao15,co15,eo15⟩:=Kd.R_slice HO_6.out
    subst eo15
    have p707:0 ≤ (x8_1:Int):=of_decide_eq_true (by first | (with_reducible assumption) | assumption)
    have q707:x8_1 < (x6_1.length:Int):=of_decide_eq_true (by first | (with_reducible assumption) | assumption)
    obtain ⟨ad707,e707,hx707_0⟩:=Kd.at_bool (Kd.R_reads' HO_6.out).2.2 x8_1 p707 q707
    (try rw [← Nbq13.out] at hx707_0)
    cases e707
    replace p707:=eq_true p707
    replace q707:=eq_true q707
    go_wp2
    go_roundg k1
    case measure=>have:=HK1.out;omega
    case rel=>exact ⟨(x1_1),(x5_1),(x6_1),(x7_1),(wrap64 (x8_1 + 1)),(by first | rfl | (simp;done) | (simp [*];done)),(by first | rfl | (simp;done) | (simp [*];done)),(by first | rfl | (simp;done) | (simp [*];done)),H',⟨by have:=HK1.out;omega⟩,⟨by (with_reducible repeat (first | apply Kd.R_alloc | apply Kd.R_drewN | apply Kd.R_drew));exact HO_5.out⟩,⟨by (with_reducible repeat (first | apply Kd.R_alloc | apply Kd.R_drewN | apply Kd.R_drew));exact HO_6.out⟩,⟨bl HB⟩⟩
   replace c14:=Bool.eq_false_iff.mpr c14
   subst c14
   rw [if_neg (show ¬ (false = true) by decide)] at H
   by_cases c16:(wrap64 ((rd l0 x8_1) * x7_1)) > x1_1
   ·rw [if_pos c16] at H
    have c16b0:=decide_eq_true c16
    clear c16
    have H':=A_ H
    clear H
    obtain ⟨Ao17,co17,eo17⟩:=Kd.R_slice HO_6.out
    subst eo17
    have p707:0 ≤ (x8_1:Int):=of_decide_eq_true (by first | (with_reducible assumption) | assumption)
    have q707:x8_1 < (x6_1.length:Int):=of_decide_eq_true (by first | (with_reducible assumption) | assumption)
    obtain ⟨ad707,e707,hx707_0⟩:=Kd.at_bool (Kd.R_reads' HO_6.out).2.2 x8_1 p707 q707
    (try rw [← Nbq13.out] at hx707_0)
    cases e707
    replace p707:=eq_true p707
    replace q707:=eq_true q707
    have p708:0 ≤ (x8_1:Int):=of_decide_eq_true (by first | (with_reducible assumption) | assumption)
    have q708:x8_1 < (l0.length:Int):=of_decide_eq_true (by first | (with_reducible assumption) | assumption)
    obtain ⟨ad708,e708,hx708_0⟩:=Kd.at_int HR0.out x8_1 p708 q708
    cases e708
    replace hx708_0:=(HB.out.cell (World.block_lt_of_cell? w _ hx708_0)).trans hx708_0
    replace p708:=eq_true p708
    replace q708:=eq_true q708
    go_wp2
    go_roundg k1
    case measure=>have:=HK1.out;omega
    case rel=>exact ⟨(x1_1),(x5_1),(x6_1),(x7_1),(wrap64 (x8_1 + 1)),(by first | rfl | (simp;done) | (simp [*];done)),(by first | rfl | (simp;done) | (simp [*];done)),(by first | rfl | (simp;done) | (simp [*];done)),H',⟨by have:=HK1.out;omega⟩,⟨by (with_reducible repeat (first | apply Kd.R_alloc | apply Kd.R_drewN | apply Kd.R_drew));exact HO_5.out⟩,⟨by (with_reducible repeat (first | apply Kd.R_alloc | apply Kd.R_drewN | apply Kd.R_drew));exact HO_6.out⟩,⟨bl HB⟩⟩
   rw [if_neg c16] at H
   have c16b0:=decide_eq_false c16
   clear c16
   obtain ⟨y709,hy709⟩:∃ y_:List Bool,y_ = (x6_1.set (x8_1:Int).toNat true):=⟨_,rfl⟩
   rw [← hy709] at H
   have Ny709:=A_ hy709
   clear hy709
   replace H:=Option.bind_eq_some_iff.mp H
   obtain ⟨⟨t711,t712⟩,A190,H⟩:=H
   dsimp only at H
   have A19:=A_ A190
   clear A190
   replace H:=gd H
   obtain ⟨c20,H⟩:=H
   have c20b0:=decide_eq_true c20
   clear c20
   obtain ⟨y713,hy713⟩:∃ y_:List (S23),y_ = (x5_1.set (x8_1:Int).toNat (⟨t711,t712⟩:S23)):=⟨_,rfl⟩
   rw [← hy713] at H
   have Ny713:=A_ hy713
   clear hy713
   have H':=A_ H
   clear H
   obtain ⟨Ao22,co22,eo22⟩:=Kd.R_slice HO_6.out
   subst eo22
   have p707:0 ≤ (x8_1:Int):=of_decide_eq_true (by first | (with_reducible assumption) | assumption)
   have q707:x8_1 < (x6_1.length:Int):=of_decide_eq_true (by first | (with_reducible assumption) | assumption)
   obtain ⟨ad707,e707,hx707_0⟩:=Kd.at_bool (Kd.R_reads' HO_6.out).2.2 x8_1 p707 q707
   (try rw [← Nbq13.out] at hx707_0)
   cases e707
   replace p707:=eq_true p707
   replace q707:=eq_true q707
   have p708:0 ≤ (x8_1:Int):=of_decide_eq_true (by first | (with_reducible assumption) | assumption)
   have q708:x8_1 < (l0.length:Int):=of_decide_eq_true (by first | (with_reducible assumption) | assumption)
   obtain ⟨ad708,e708,hx708_0⟩:=Kd.at_int HR0.out x8_1 p708 q708
   cases e708
   replace hx708_0:=(HB.out.cell (World.block_lt_of_cell? w _ hx708_0)).trans hx708_0
   replace p708:=eq_true p708
   replace q708:=eq_true q708
   have p18:0 ≤ (x8_1:Int):=of_decide_eq_true (by first | (with_reducible assumption) | assumption)
   have q18:(x8_1:Int) < ((x6_1.length:Int):Int):=of_decide_eq_true (by first | (with_reducible assumption) | assumption)
   obtain ⟨go18,co18,eo18,gb18,gl18,cl18,HG18⟩:=Kd.R_form HO_6.out (by omega)
   (first | cases eo18 | (injection eo18 with ea_ en_ ec_;(first | subst ea_ | (injection ea_ with ea_;subst ea_));subst ec_;clear en_))
   have GB18:=A_ gb18
   have GG18:=A_ HG18
   clear gb18 gl18 HG18
   (first | simp only [add_plain] at hx707_0 | skip)
   obtain ⟨hx18_0,hf18_0⟩:=Kd.R_celln false HO_6.out (x8_1:Int) p18 q18
   replace p18:=eq_true p18
   replace q18:=eq_true q18
   have HP23:=Kd.R_putg HO_6.out (x8_1:Int) true
   go_wp2_with (first | ((with_reducible refine gate_store (t:=4) (p:=40) rfl ?_);refine store_event (t:=4) (p:=40) (v:=?vo_w24) (w1:=(wr.setCell ⟨go18,(x8_1:Int).toNat,none⟩ (.bool true))) ?hg ?ho ?hn ?hr ?_;(case ho=>rfl);(case hg=>rfl);(case hn=>rfl);(case hr=>first | (go_simp;done) | (go_simp;rfl));intro w24 hw;have hg:wr.grownBy w24 (some go18):=(by rw [hw];exact HP23.2);have hp_:Kd.R Kd.bool 4 w24 w.heap.size (fun _=>True) (.slice (some ⟨go18,0,none⟩) x6_1.length co22) y709:=(by rw [hw,Ny709.out];exact HP23.1);clear HP23;replace HO_5:=A_ (Kd.R_over' (v:=(.slice (some ⟨go18,0,none⟩) x6_1.length co22)) (rs HO_5) (Kd.R_typed HO_6.out) (by decide) hg);replace HO_6:=A_ hp_;replace HB:=A_ ((by rw [hw];exact below_set (HB.out) GB18.out:Below w.heap.size w w24));clear hg hw hp_;have p710:0 ≤ (x8_1:Int):=of_decide_eq_true (by first | (with_reducible assumption) | assumption);have q710:x8_1 < (l0.length:Int):=of_decide_eq_true (by first | (with_reducible assumption) | assumption);obtain ⟨ad710,e710,hx710_0⟩:=Kd.at_int HR0.out x8_1 p710 q710;obtain rfl:ad708 = ad710:=(by injection e710);replace hx710_0:=(HB.out.cell (World.block_lt_of_cell? w _ hx710_0)).trans hx710_0;replace p710:=eq_true p710;replace q710:=eq_true q710) | ((with_reducible refine gate_callee (f:=23) rfl ?_);refine gL (some 47) Try.func23 #[.int .i64 (rd l0 x8_1)] ?_;(with_reducible refine (numnahref07_Whole.calls (rd l0 x8_1) t711 t712 _ A19.out).mono ?_);rintro e w25 ⟨rfl,hb⟩;refine ⟨_,rfl,?_⟩;replace HO_5:=rB HO_5 hb;replace HO_6:=rB HO_6 hb;replace HB:=bB HB hb;(try clear hb);have p21:0 ≤ (x8_1:Int):=of_decide_eq_true (by first | (with_reducible assumption) | assumption);have q21:(x8_1:Int) < ((x5_1.length:Int):Int):=of_decide_eq_true (by first | (with_reducible assumption) | assumption);obtain ⟨go21,co21,eo21,gb21,gl21,cl21,HG21⟩:=Kd.R_form HO_5.out (by omega);(first | cases eo21 | (injection eo21 with ea_ en_ ec_;(first | subst ea_ | (injection ea_ with ea_;subst ea_));subst ec_;clear en_));have GB21:=A_ gb21;have GG21:=A_ HG21;clear gb21 gl21 HG21;obtain ⟨ce21,hcl21,hM21,hcc21,hfr21⟩:=Kd.R_elem HO_5.out z23 (x8_1:Int) p21 q21;obtain rfl:=k23_openM hM21;have hx21_0:w25.cell? ⟨go21,(x8_1:Int).toNat * 2,none⟩ = some (.int .i64 ((rd_T23 x5_1 x8_1).f0)):=hcc21 0 _ rfl;have hx21_1:w25.cell? ⟨go21,(x8_1:Int).toNat * 2 + 1,none⟩ = some (.int .i64 ((rd_T23 x5_1 x8_1).f1)):=hcc21 1 _ rfl;have hf21_0:w25.frozen? ⟨go21,(x8_1:Int).toNat * 2,none⟩ = false:=hfr21 0;have hf21_1:w25.frozen? ⟨go21,(x8_1:Int).toNat * 2 + 1,none⟩ = false:=hfr21 1;clear hcl21 hcc21 hfr21 hM21;replace p21:=eq_true p21;replace q21:=eq_true q21;have HX26:=A_ (show Kd.R k23 23 w25 w.heap.size (fun _=>True) (.slice (some ⟨go21,0,none⟩) x5_1.length co21) x5_1 from (rs HO_5));obtain ⟨ce26,hcl26,hM26,hcc26,hfr26⟩:=Kd.R_elem HX26.out z23 (x8_1:Int) (of_decide_eq_true (by first | (with_reducible assumption) | assumption)) (by have h_:(x8_1:Int) < ((x5_1.length:Int):Int):=of_decide_eq_true (by first | (with_reducible assumption) | assumption);first | exact h_ | (have e_:=(Kd.R_reads' HO_5.out).1;omega) | simpa using h_);obtain rfl:=k23_openM hM26;have HP26:=Kd.R_seg HX26.out (x8_1:Int) (of_decide_eq_true (by first | (with_reducible assumption) | assumption)) (by have h_:(x8_1:Int) < ((x5_1.length:Int):Int):=of_decide_eq_true (by first | (with_reducible assumption) | assumption);first | exact h_ | (have e_:=(Kd.R_reads' HO_5.out).1;omega) | simpa using h_) (seg:=[.int .i64 t711,.int .i64 t712]) (j:=0) hcl26 hcc26 (show 2 ≤ 2 from by decide) (x':=(⟨t711,t712⟩:S23)) (k23_mkM _ _ _ (⟨t711,t712⟩:S23) ) (fun _ hk=>hk);have hx26_0:=hcc26 0 _ rfl;(try simp only [show (k23).sz = 2 from rfl,Nat.mul_one,Nat.add_zero] at hx26_0);have hf26_0:=hfr26 0;(try simp only [show (k23).sz = 2 from rfl,Nat.mul_one,Nat.add_zero] at hf26_0);have hx26_1:=hcc26 1 _ rfl;(try simp only [show (k23).sz = 2 from rfl,Nat.mul_one,Nat.add_zero] at hx26_1);have hf26_1:=hfr26 1;(try simp only [show (k23).sz = 2 from rfl,Nat.mul_one,Nat.add_zero] at hf26_1);clear hcl26 hcc26 hfr26 hM26) | ((with_reducible refine gate_store (t:=23) (p:=48) rfl ?_);refine store_event (t:=23) (p:=48) (v:=?vo_w27) (w1:=((w25.setCell ⟨go21,(x8_1:Int).toNat * 2,none⟩ (.int .i64 t711)).setCell ⟨go21,(x8_1:Int).toNat * 2 + 1,none⟩ (.int .i64 t712))) ?hg ?ho ?hn ?hr ?_;(case ho=>rfl);(case hg=>rfl);(case hn=>rfl);(case hr=>first | (go_simp;done) | (go_simp;rfl));intro w27 hw;have hg:w25.grownBy w27 (some go21):=(by rw [hw];exact HP26.2);have hp_:Kd.R k23 23 w27 w.heap.size (fun _=>True) (.slice (some ⟨go21,0,none⟩) x5_1.length co21) y713:=(by rw [hw,Ny713.out];exact HP26.1);clear HP26;replace HO_6:=A_ (Kd.R_over' (v:=(.slice (some ⟨go21,0,none⟩) x5_1.length co21)) (rs HO_6) (Kd.R_typed HO_5.out) (by decide) hg);replace HO_5:=A_ hp_;replace HB:=A_ ((by rw [hw];exact below_set (below_set (HB.out) GB21.out) GB21.out:Below w.heap.size w w27));clear hg hw hp_;have p714:0 ≤ (x8_1:Int):=of_decide_eq_true (by first | (with_reducible assumption) | assumption);have q714:x8_1 < (l0.length:Int):=of_decide_eq_true (by first | (with_reducible assumption) | assumption);obtain ⟨ad714,e714,hx714_0⟩:=Kd.at_int HR0.out x8_1 p714 q714;obtain rfl:ad708 = ad714:=(by injection e714);replace hx714_0:=(HB.out.cell (World.block_lt_of_cell? w _ hx714_0)).trans hx714_0;replace p714:=eq_true p714;replace q714:=eq_true q714))
   go_roundg k1
   case measure=>have:=HK1.out;omega
   case rel=>exact ⟨(wrap64 (x1_1 - (rd l0 x8_1))),(y713),(y709),(wrap64 (x7_1 - 1)),(0),(by first | rfl | (simp;done) | (simp [*];done)),(by first | rfl | (simp;done) | (simp [*];done)),(by first | rfl | (simp;done) | (simp [*];done)),H',⟨by have:=HK1.out;omega⟩,⟨by (with_reducible repeat (first | apply Kd.R_alloc | apply Kd.R_drewN | apply Kd.R_drew));exact HO_5.out⟩,⟨by (with_reducible repeat (first | apply Kd.R_alloc | apply Kd.R_drewN | apply Kd.R_drew));exact HO_6.out⟩,⟨bl HB⟩⟩
end Go.Proofs.Ytjohcjfmlhihbaa.G
namespace Go.Proofs.Ytjohcjfmlhihbaa.P
open Go Go.RowKit Go.Proofs.Ytjohcjfmlhihbaa.G
open Go.Proofs.YtjohcjfmlhihbaaW.PrintWords Go.Proofs.YtjohcjfmlhihbaaW.PrintMore
theorem S_single {m j:Nat} (hj:j < m) (r:Rat):S m (fun u=>if u = j then r else 0) = r:=by
 induction m with
 | zero=>omega
 | succ m ih =>
  unfold S
  rw [List.range_succ,List.map_append,tot_append]
  by_cases h:j = m
  ·subst h
   have:tot ((List.range j).map fun u=>if u = j then r else 0) = 0:=S_zero (m:=j) (fun u hu=>by rw [if_neg (by omega)])
   rw [this]
   simp only [List.map_cons,List.map_nil,tot_cons,tot_nil,if_true]
   grind
  ·have:=ih (by omega)
   unfold S at this
   rw [this]
   simp only [List.map_cons,List.map_nil,tot_cons,tot_nil]
   rw [if_neg (fun e=>h e.symm)]
   grind
theorem S_update {m j:Nat} (hj:j < m) {f g:Nat → Rat} (h:∀ u,u < m → u ≠ j → g u = f u):S m g = S m f + (g j - f j):=by
 have e:S m (fun u=>g u - f u) = S m (fun u=>if u = j then g j - f j else 0):=S_congr fun u hu=>by
  by_cases hu2:u = j
  ·subst hu2;rw [if_pos rfl]
  ·rw [if_neg hu2,h u hu hu2];grind
 rw [S_sub,S_single hj] at e
 grind
theorem S_ge {m j:Nat} (hj:j < m) {f:Nat → Rat} (h:∀ u,u < m → 0 ≤ f u):f j ≤ S m f:=by
 have:=S_le (f:=fun u=>if u = j then f j else 0) (g:=f) (m:=m) (fun u hu=>by
  by_cases e:u = j
  ·subst e;rw [if_pos rfl];exact Rat.le_refl
  ·rw [if_neg e];exact h u hu)
 rwa [S_single hj] at this
theorem tot_S (l:List Rat):tot l = S l.length (fun i=>l.getD i 0):=by
 unfold S
 congr 1
 refine List.ext_getElem (by simp) fun i h1 h2=>?_
 simp [h1]
structure Rq (l:List Int) (E e:Int) (done:List Bool) (left:Nat) (out:List S23):Prop where
 dl:done.length = l.length
 ol:out.length = l.length
 cnt:(left:Rat) = S l.length (fun i=>if done.getD i false then 0 else 1)
 est:(e:Rat) = (E:Rat) - S l.length (fun i=>if done.getD i false then ((l.getD i 0:Int):Rat) else 0)
 e0:0 ≤ e
 eb:e ≤ 20000
 lb:left ≤ 10
 ok:∀ i,i < l.length → done.getD i false = true → l.getD i 0 * (left:Int) ≤ e ∧ out.getD i z23 = encQ ((l.getD i 0:Int):Rat)
section
variable {l:List Int} (h:IsCl l) {E:Int}
include h
omit h in
theorem Rq.left_pos {e:Int} {done:List Bool} {left:Nat} {out:List S23} (s:Rq l E e done left out) {j:Nat} (hj:j < l.length) (hd:done.getD j false = false):0 < left:=by
 have h1:=S_ge hj (f:=fun i=>if done.getD i false then 0 else 1) (fun u _=>by split <;> grind)
 rw [← s.cnt,hd] at h1
 simp only [Bool.false_eq_true,if_false] at h1
 apply Classical.byContradiction
 intro h0
 have:left = 0:=by omega
 subst this
 have e:((0:Nat):Rat) = 0:=rfl
 rw [e] at h1
 grind
theorem Rq.next {e:Int} {done:List Bool} {left:Nat} {out:List S23} (s:Rq l E e done (left + 1) out) {j:Nat} (hj:j < l.length) (hd:done.getD j false = false) (hc:l.getD j 0 * ((left + 1:Nat):Int) ≤ e) :
  Rq l E (e - l.getD j 0) (done.set j true) left (out.set j (encQ ((l.getD j 0:Int):Rat))):=by
 have hg:l.getD j 0 = l[j]:=by simp [hj]
 have hm:=h.mem _ (List.getElem_mem hj)
 rw [← hg] at hm
 have gd:∀ u,(done.set j true).getD u false = if u = j then true else done.getD u false:=by
  intro u
  simp only [List.getD_eq_getElem?_getD,List.getElem?_set]
  by_cases e1:u = j
  ·subst e1;simp [s.dl,hj]
  ·rw [if_neg (fun e=>e1 e.symm),if_neg e1]
 have go:∀ u,(out.set j (encQ ((l.getD j 0:Int):Rat))).getD u z23 = if u = j then encQ ((l.getD j 0:Int):Rat) else out.getD u z23:=by
  intro u
  simp only [List.getD_eq_getElem?_getD,List.getElem?_set]
  by_cases e1:u = j
  ·subst e1;simp [s.ol,hj]
  ·rw [if_neg (fun e=>e1 e.symm),if_neg e1]
 have hc2:l.getD j 0 * (left:Int) + l.getD j 0 ≤ e:=by
  have:l.getD j 0 * ((left + 1:Nat):Int) = l.getD j 0 * (left:Int) + l.getD j 0:=by push_cast;rw [Int.mul_add,Int.mul_one]
  omega
 have hpos:0 ≤ l.getD j 0 * (left:Int):=Int.mul_nonneg hm.1 (by omega)
 refine ⟨by rw [List.length_set];exact s.dl,by rw [List.length_set];exact s.ol,?_,?_,by omega,by have:=s.eb;omega,by have:=s.lb;omega,fun i hi hid=>?_⟩
 ·have hu:=S_update hj (f:=fun i=>if done.getD i false then (0:Rat) else 1) (g:=fun i=>if (done.set j true).getD i false then 0 else 1) (fun u _ hu=>by simp only [gd,if_neg hu])
  rw [hu,← s.cnt]
  simp only [gd,if_true,hd,Bool.false_eq_true,if_false]
  push_cast;grind
 ·have hu:=S_update hj (f:=fun i=>if done.getD i false then ((l.getD i 0:Int):Rat) else 0) (g:=fun i=>if (done.set j true).getD i false then ((l.getD i 0:Int):Rat) else 0) (fun u _ hu=>by simp only [gd,if_neg hu])
  rw [hu]
  simp only [gd,if_true,hd,Bool.false_eq_true,if_false]
  have:=s.est
  push_cast
  grind
 ·rw [gd] at hid
  rw [go]
  by_cases e1:i = j
  ·subst e1
   rw [if_pos rfl]
   exact ⟨by omega,rfl⟩
  ·rw [if_neg e1] at hid ⊢
   obtain ⟨k1,k2⟩:=s.ok i hi hid
   refine ⟨?_,k2⟩
   have hi2:l.getD i 0 * ((left + 1:Nat):Int) = l.getD i 0 * (left:Int) + l.getD i 0:=by push_cast;rw [Int.mul_add,Int.mul_one]
   rw [hi2] at k1
   have a1:(l.getD i 0 * (left:Int) + l.getD i 0) * (left:Int) ≤ e * (left:Int):=Int.mul_le_mul_of_nonneg_right k1 (by omega)
   by_cases hl0:left = 0
   ·subst hl0
    have:l.getD i 0 * ((0:Nat):Int) = 0:=by simp
    omega
   ·-- (left + 1) * (c_i * left) ≤ e * left ≤ (left + 1) * (e - c_j)
    have a2:e * (left:Int) ≤ ((left:Int) + 1) * (e - l.getD j 0):=by
     have:((left:Int) + 1) * (e - l.getD j 0) = e * (left:Int) + e - (l.getD j 0 * (left:Int) + l.getD j 0):=by grind
     omega
    have a3:(l.getD i 0 * (left:Int) + l.getD i 0) * (left:Int) = ((left:Int) + 1) * (l.getD i 0 * (left:Int)):=by grind
    rw [a3] at a1
    exact Int.le_of_mul_le_mul_left (Int.le_trans a1 a2) (by omega)
theorem requal_l1 {e:Int} {done:List Bool} {left:Nat} (hdl:done.length = l.length) (he0:0 ≤ e) (heb:e ≤ 20000) (hlb:left ≤ 10) (hlp:∀ j,j < l.length → done.getD j false = false → 0 < left) (x:List Rat) (hx:x.length = l.length) (hxn:∀ j,j < l.length → done.getD j false = false → x.getD j 0 = (e:Rat) / (left:Rat)) :
  ∀ (d i:Nat) (out:List S23),i + d = l.length → out.length = l.length → (∀ j,j < l.length → (j < i ∨ done.getD j false = true) → out.getD j z23 = encQ (x.getD j 0)) → Ev (fun k=>numnahref07_equal.l1 k l e out done (left:Int) (i:Int)) (encL x):=by
 intro d
 have hl:=h.ten
 induction d with
 | zero =>
  intro i out hi ho hok
  have:out = encL x:=by
   refine List.ext_getElem (by rw [ho,encL_length,hx]) fun j h1 h2=>?_
   have:=hok j (by omega) (.inl (by omega))
   rw [encL_get (by rw [hx];omega)]
   simpa [h1,show j < x.length by omega] using this
  rw [this]
  refine Ev.step (f:=fun _=>some (encL x)) (fun k=>?_) (Ev.now _)
  rw [numnahref07_equal.l1,if_neg (by omega)]
 | succ d ih =>
  intro i out hi ho hok
  have hil:i < l.length:=by omega
  have hb:rdOf false done (i:Int) = done.getD i false:=by unfold rdOf;rw [Int.toNat_natCast]
  cases hd:done.getD i false with
  | true =>
   refine Ev.step (fun k=>?_) (ih (i + 1) out (by omega) ho (fun j hj hjj=>hok j hj (by rcases hjj with hjj | hjj;(by_cases e:j = i;(subst e;exact .inr hd);exact .inl (by omega));exact .inr hjj)))
   rw [numnahref07_equal.l1,if_pos (by omega),if_pos (by omega),if_pos (by omega),hb,hd,if_pos rfl,wrap_succ (by omega)]
  | false =>
   have hlpos:=hlp i hil hd
   obtain ⟨K1,e1⟩:=ev_frac e left hlpos (by omega) (by omega)
   have hxi:=hxn i hil hd
   obtain ⟨K2,e2⟩:=ih (i + 1) (out.set i (encQ (x.getD i 0))) (by omega) (by rw [List.length_set];exact ho) (fun j hj hjj=>by
    simp only [List.getD_eq_getElem?_getD,List.getElem?_set]
    by_cases e:i = j
    ·subst e;simp [ho,hil]
    ·rw [if_neg e]
     have:=hok j hj (by rcases hjj with hjj | hjj;exact .inl (by omega);exact .inr hjj)
     simpa only [List.getD_eq_getElem?_getD] using this)
   refine ⟨K1 + K2 + 1,fun k hk=>?_⟩
   obtain ⟨m,rfl⟩:∃ m,k = m + 1:=⟨k - 1,by omega⟩
   have f1:=e1 m (by omega)
   have f2:=e2 m (by omega)
   have e:(⟨(mkRat e left).num,((mkRat e left).den:Int)⟩:S23) = encQ (x.getD i 0):=by rw [hxi,mk_frac];rfl
   show numnahref07_equal.l1 (m + 1) _ _ _ _ _ _ = _
   rw [numnahref07_equal.l1,if_pos (by omega),if_pos (by omega),if_pos (by omega),hb,hd,if_neg (by decide),ref_reduced]
   simp only [f1,Option.bind_some]
   rw [if_pos (by omega),Int.toNat_natCast,e,wrap_succ (by omega)]
   exact f2
theorem requal_exit (hE:E ≤ sI l) {left:Nat} {e:Int} {done:List Bool} {out:List S23} (s:Rq l E e done left out) (hn:∀ j,j < l.length → done.getD j false = false → e < l.getD j 0 * (left:Int)) :
  ∃ x,IsEq (cl l) (E:Rat) x ∧ Ev (fun k=>numnahref07_equal.l1 k l e out done (left:Int) 0) (encL x):=by
 have hl:=h.ten
 have hgd:∀ j,j < l.length → (cl l).getD j 0 = ((l.getD j 0:Int):Rat):=fun j hj=>by
  have:j < (cl l).length:=by rw [cl_length];exact hj
  simp only [List.getD_eq_getElem?_getD,List.getElem?_eq_getElem this,List.getElem?_eq_getElem hj,Option.getD_some]
  exact cl_get hj
 have key:∀ L:Rat,(∀ j,j < l.length → done.getD j false = true → ((l.getD j 0:Int):Rat) ≤ L) → (∀ j,j < l.length → done.getD j false = false → L < ((l.getD j 0:Int):Rat) ∧ 0 < left ∧ L = (e:Rat) / (left:Rat)) → (left:Rat) * L = (e:Rat) →
   ∃ x,IsEq (cl l) (E:Rat) x ∧ Ev (fun k=>numnahref07_equal.l1 k l e out done (left:Int) 0) (encL x):=by
  intro L hd hnd hsum
  have hxl:((cl l).map fun c=>min c L).length = l.length:=by rw [List.length_map,cl_length]
  have hxg:∀ j,j < l.length → ((cl l).map fun c=>min c L).getD j 0 = if done.getD j false = true then ((l.getD j 0:Int):Rat) else L:=fun j hj=>by
   have hj2:j < (cl l).length:=by rw [cl_length];exact hj
   have e1:((cl l).map fun c=>min c L).getD j 0 = min ((cl l).getD j 0) L:=by simp [hj2]
   rw [e1,hgd j hj,Rat.min_def]
   cases hdj:done.getD j false with
   | true=>rw [if_pos (hd j hj hdj),if_pos rfl]
   | false =>
    have:=(hnd j hj hdj).1
    rw [if_neg (by grind),if_neg (by decide)]
  refine ⟨(cl l).map fun c=>min c L,⟨L,rfl,?_⟩,?_⟩
  ·rw [tot_S,hxl]
   have e1:S l.length (fun i=>((cl l).map fun c=>min c L).getD i 0) = S l.length (fun i=>(if done.getD i false then ((l.getD i 0:Int):Rat) else 0) + (if done.getD i false then 0 else 1) * L):=S_congr fun u hu=>by
    rw [hxg u hu]
    cases done.getD u false with
    | true=>simp only [if_true];grind
    | false=>simp only [Bool.false_eq_true,if_false];grind
   rw [e1,S_add,S_mul,← s.cnt,hsum]
   have:=s.est
   grind
  ·refine requal_l1 h s.dl s.e0 s.eb s.lb (fun j hj hdj=>(hnd j hj hdj).2.1) _ hxl (fun j hj hdj=>?_) l.length 0 out (by omega) s.ol (fun j hj hjj=>?_)
   ·rw [hxg j hj,hdj,if_neg (by decide)]
    exact (hnd j hj hdj).2.2
   ·have hdj:done.getD j false = true:=by rcases hjj with hjj | hjj;omega;exact hjj
    rw [hxg j hj,hdj,if_pos rfl]
    exact (s.ok j hj hdj).2
 by_cases h0:left = 0
 ·have hall:∀ j,j < l.length → done.getD j false = true:=fun j hj=>by
   cases hdj:done.getD j false with
   | true=>rfl
   | false=>have:=s.left_pos hj hdj;omega
  have he:(e:Rat) = (E:Rat) - (sI l:Rat):=by
   rw [s.est,← tot_cl,tot_S,cl_length]
   congr 1
   exact S_congr fun u hu=>by rw [hall u hu,if_pos rfl,hgd u hu]
  have he0:e = 0:=by
   have h1:=s.e0
   have:((E - sI l:Int):Rat) = (e:Rat):=by rw [he];push_cast;rfl
   have:=Rat.intCast_inj.1 this
   omega
  refine key 1000 (fun j hj _=>?_) (fun j hj hdj=>by rw [hall j hj] at hdj;cases hdj) ?_
  ·have hg:l.getD j 0 = l[j]:=by simp [hj]
   have hm:=h.mem _ (List.getElem_mem hj)
   rw [hg]
   have:=(okC_int hm).hi
   exact this
  ·rw [h0,he0]
   have e1:((0:Nat):Rat) = 0:=rfl
   have e2:((0:Int):Rat) = 0:=rfl
   rw [e1,e2,Rat.zero_mul]
 ·have hp:=nat_pos_rat (n:=left) (by omega)
  have hmul:(e:Rat) / (left:Rat) * (left:Rat) = (e:Rat):=Rat.div_mul_cancel (by grind)
  refine key ((e:Rat) / (left:Rat)) (fun j hj hdj=>?_) (fun j hj hdj=>⟨?_,by omega,rfl⟩) (by rw [Rat.mul_comm];exact hmul)
  ·refine Rat.le_of_mul_le_mul_right (c:=(left:Rat)) ?_ hp
   rw [hmul]
   have:=int_rat_le.2 (s.ok j hj hdj).1
   push_cast at this
   exact this
  ·have h1:((e:Int):Rat) < ((l.getD j 0 * (left:Int):Int):Rat):=Rat.intCast_lt_intCast.2 (hn j hj hdj)
   push_cast at h1
   apply Classical.byContradiction
   intro hle
   have h2:((l.getD j 0:Int):Rat) ≤ (e:Rat) / (left:Rat):=by grind
   have h3:=Rat.mul_le_mul_of_nonneg_right h2 (Rat.le_of_lt hp)
   rw [hmul] at h3
   grind
theorem requal_l0 (hE:E ≤ sI l):∀ (left:Nat) (d i:Nat) (e:Int) (done:List Bool) (out:List S23),Rq l E e done left out → i + d = l.length → (∀ j,j < i → done.getD j false = false → e < l.getD j 0 * (left:Int)) →
  ∃ x,IsEq (cl l) (E:Rat) x ∧ Ev (fun k=>numnahref07_equal.l0 k l e out done (left:Int) (i:Int)) (encL x):=by
 have hl:=h.ten
 intro left
 induction left with
 | zero =>
  intro d
  induction d with
  | zero =>
   intro i e done out s hi hn
   obtain ⟨x,hx,hev⟩:=requal_exit h hE s (fun j hj=>hn j (by omega))
   refine ⟨x,hx,Ev.step (fun k=>?_) hev⟩
   rw [numnahref07_equal.l0,if_neg (by omega)]
  | succ d ih =>
   intro i e done out s hi hn
   have hil:i < l.length:=by omega
   have hdl:=s.dl
   have hb:rdOf false done (i:Int) = done.getD i false:=by unfold rdOf;rw [Int.toNat_natCast]
   cases hd:done.getD i false with
   | true =>
    obtain ⟨x,hx,hev⟩:=ih (i + 1) e done out s (by omega) (fun j hj hdj=>hn j (by
     by_cases e:j = i
     ·subst e;rw [hd] at hdj;cases hdj
     ·omega) hdj)
    refine ⟨x,hx,Ev.step (fun k=>?_) hev⟩
    rw [numnahref07_equal.l0,if_pos (by omega),if_pos (by omega),if_pos (by omega),hb,hd,if_pos rfl,wrap_succ (by omega)]
   | false=>have:=s.left_pos hil hd;omega
 | succ left ihl =>
  intro d
  induction d with
  | zero =>
   intro i e done out s hi hn
   obtain ⟨x,hx,hev⟩:=requal_exit h hE s (fun j hj=>hn j (by omega))
   refine ⟨x,hx,Ev.step (fun k=>?_) hev⟩
   rw [numnahref07_equal.l0,if_neg (by omega)]
  | succ d ih =>
   intro i e done out s hi hn
   have hil:i < l.length:=by omega
   have hdl:=s.dl
   have hb:rdOf false done (i:Int) = done.getD i false:=by unfold rdOf;rw [Int.toNat_natCast]
   have hg:l.getD i 0 = l[i]:=by simp [hil]
   have hm:=h.mem _ (List.getElem_mem hil)
   have hlb:=s.lb
   have hmul:0 ≤ l[i] * ((left + 1:Nat):Int) ∧ l[i] * ((left + 1:Nat):Int) ≤ 1000 * 10:=by
    refine ⟨Int.mul_nonneg hm.1 (by omega),?_⟩
    exact Int.mul_le_mul hm.2 (by omega) (by omega) (by omega)
   have more:∀ j,j < i + 1 → done.getD j false = false → (j = i → e < l.getD j 0 * ((left + 1:Nat):Int)) → e < l.getD j 0 * ((left + 1:Nat):Int):=fun j hj hdj hji=>by
    by_cases e1:j = i
    ·exact hji e1
    ·exact hn j (by omega) hdj
   cases hd:done.getD i false with
   | true =>
    obtain ⟨x,hx,hev⟩:=ih (i + 1) e done out s (by omega) (fun j hj hdj=>more j hj hdj (fun e1=>by subst e1;rw [hd] at hdj;cases hdj))
    refine ⟨x,hx,Ev.step (fun k=>?_) hev⟩
    rw [numnahref07_equal.l0,if_pos (by omega),if_pos (by omega),if_pos (by omega),hb,hd,if_pos rfl,wrap_succ (by omega)]
   | false =>
    by_cases hc:l[i] * ((left + 1:Nat):Int) > e
    ·obtain ⟨x,hx,hev⟩:=ih (i + 1) e done out s (by omega) (fun j hj hdj=>more j hj hdj (fun e1=>by subst e1;rw [hg];exact hc))
     refine ⟨x,hx,Ev.step (fun k=>?_) hev⟩
     rw [numnahref07_equal.l0,if_pos (by omega),if_pos (by omega),if_pos (by omega),hb,hd,if_neg (by decide),rd_get hil,wrap_id (by omega) (by omega),if_pos hc,wrap_succ (by omega)]
    ·have sn:=s.next h hil hd (by rw [hg];omega)
     obtain ⟨x,hx,hev⟩:=ihl l.length 0 _ _ _ sn (by omega) (fun j hj=>by omega)
     refine ⟨x,hx,Ev.step (fun k=>?_) hev⟩
     have hol:=s.ol
     have he:(⟨l[i],1⟩:S23) = encQ ((l.getD i 0:Int):Rat):=by rw [hg];unfold encQ;rw [whole_num,whole_den];rfl
     have hes:=s.e0
     have heb:=s.eb
     have ew:wrap64 (((left + 1:Nat):Int) - 1) = (left:Int):=by unfold wrap64;omega
     rw [numnahref07_equal.l0,if_pos (by omega),if_pos (by omega),if_pos (by omega),hb,hd,if_neg (by decide),rd_get hil,wrap_id (x:=l[i] * ((left + 1:Nat):Int)) (by omega) (by omega),if_neg hc]
     simp only [numnahref07_Whole.f,Option.bind_some]
     rw [if_pos (by omega),Int.toNat_natCast,he,wrap_id (x:=e - l[i]) (by omega) (by omega),ew,hg]
     rfl
theorem ev_requal (h0:0 ≤ E) (hb:E ≤ 20000) (hE:E ≤ sI l):∃ x,IsEq (cl l) (E:Rat) x ∧ Ev (fun k=>numnahref07_equal.f k l E) (encL x):=by
 have hl:=h.ten
 have hr:∀ {α:Type} (n i:Nat) (a d:α),i < n → (List.replicate n a).getD i d = a:=fun n i a d hi=>by simp [hi]
 have s:Rq l E E (List.replicate l.length false) l.length (List.replicate l.length z23):=by
  refine ⟨by simp,by simp,?_,?_,h0,hb,hl,fun i hi hd=>by rw [hr _ _ _ _ hi] at hd;cases hd⟩
  ·have:S l.length (fun i=>if (List.replicate l.length false).getD i false then (0:Rat) else 1) = S l.length (fun _=>1):=S_congr fun u hu=>by rw [hr _ _ _ _ hu];rfl
   rw [this]
   have:=tot_const (1:Rat) (List.range l.length)
   unfold S
   rw [this,List.length_range]
   grind
  ·have:S l.length (fun i=>if (List.replicate l.length false).getD i false then ((l.getD i 0:Int):Rat) else 0) = 0:=S_zero fun u hu=>by rw [hr _ _ _ _ hu];rfl
   rw [this];grind
 obtain ⟨x,hx,hev⟩:=requal_l0 h hE l.length l.length 0 E _ _ s (by omega) (fun j hj=>by omega)
 refine ⟨x,hx,?_⟩
 unfold numnahref07_equal.f
 refine Ev.congr (fun k=>?_) hev
 rw [if_pos (by omega),if_pos (by omega),if_pos (by omega),Int.toNat_natCast]
 rfl
end
end Go.Proofs.Ytjohcjfmlhihbaa.P
namespace Go.Proofs.Ytjohcjfmlhihbaa.P
open Go Go.RowKit Go.Proofs.Ytjohcjfmlhihbaa.G
open Go.Proofs.YtjohcjfmlhihbaaW.PrintWords Go.Proofs.YtjohcjfmlhihbaaW.PrintMore
theorem min_small {q:List Rat} (hq:∀ c ∈ q,OkC c) (hl:q.length ≤ 10) {E L:Rat} (h0:0 ≤ E) (hE:E.den ∣ 2) (ht:tot (q.map fun c=>min c L) = E):∀ c ∈ q,Sm 20000 20 (min c L):=by
 intro c hc
 obtain ⟨m,hm1,hm2,hd⟩:=IsEq.den (l:=q) (E:=E) ⟨L,rfl,ht⟩ (D:=2) (by omega) (fun c hc=>(hq c hc).den) hE (min c L) (List.mem_map.2 ⟨c,hc,rfl⟩)
 have hL:=level_pos (List.ne_nil_of_mem hc) (fun c=>min c L) L (fun c _=>by grind) (by rw [ht];exact h0)
 have hd2:(min c L).den ≤ 20:=Nat.le_trans (Nat.le_of_dvd (by omega) hd) (by omega)
 have h1:=(hq c hc).lo
 have h2:=(hq c hc).hi
 exact ⟨Nat.le_trans (num_abs (B:=1000) (by grind) (by grind) hd2) (by decide),hd2⟩
theorem half_cl (l:List Int):tot ((cl l).map (· / 2)) = (sI l:Rat) / 2:=by
 have:=half_tot (cl l)
 rw [tot_cl] at this
 exact this
set_option linter.unusedSectionVars false
section
variable {l:List Int} (h:IsCl l) {E:Int} (h0:0 ≤ E) (h1:E ≤ sI l)
include h h0 h1
omit h0 h1 in
theorem sI_cl:0 ≤ sI l ∧ sI l ≤ 10000:=by
 have:=sI_bound h.mem
 have:=h.ten
 omega
theorem E_le:(E:Rat) ≤ tot (cl l):=by rw [tot_cl];exact int_rat_le.2 h1
omit h h1 in
theorem E_ge:(0:Rat) ≤ (E:Rat):=by have:=int_rat_le.2 h0;simpa using this
omit h h0 h1 in
theorem E_den (E:Int):(E:Rat).den ∣ 2:=by rw [whole_den];exact Nat.one_dvd _
theorem ev_awards:∃ x,IsRule 1 (cl l) (E:Rat) x ∧ Ev (fun k=>shares_claims_awards.f k l E) (encL x):=by
 obtain ⟨x,⟨L,rfl,ht⟩,hx⟩:=ev_equal (cl_okC h) (by rw [cl_length];exact h.ten) (E_ge h0) (E_le h h0 h1) (E_den E)
 refine ⟨_,⟨fun c=>min c L,⟨L,rfl⟩,rfl,ht⟩,?_⟩
 unfold shares_claims_awards.f
 refine Ev.bind (ev_whole h E) ?_
 simp only [shares_whole.f,Option.bind_some]
 rw [whole_num,whole_den] at hx
 exact Ev.bind hx (Ev.now _)
theorem ev_losses:∃ x,IsRule 2 (cl l) (E:Rat) x ∧ Ev (fun k=>shares_claims_losses.f k l E) (encL x):=by
 have hs:=sI_cl h
 have e:((sI l - E:Int):Rat) = tot (cl l) - (E:Rat):=by rw [tot_cl];push_cast;rfl
 have hd:(0:Rat) ≤ ((sI l - E:Int):Rat):=E_ge (by omega)
 have hge:=E_ge h0
 obtain ⟨x,⟨L,rfl,ht⟩,hx⟩:=ev_equal (cl_okC h) (by rw [cl_length];exact h.ten) hd (by rw [e];grind) (E_den _)
 have hsm:=min_small (cl_okC h) (by rw [cl_length];exact h.ten) hd (E_den _) ht
 refine ⟨_,⟨fun c=>c - min c L,⟨L,rfl⟩,rfl,?_⟩,?_⟩
 ·have:=tot_sub (fun c=>c) (fun c=>min c L) (cl l)
  rw [List.map_id'] at this
  rw [this,ht,e];grind
 ·unfold shares_claims_losses.f
  refine Ev.bind (ev_whole h E) (Ev.bind (ev_total h.mem (by have:=h.ten;omega)) ?_)
  rw [wrap_id (by omega) (by omega)]
  simp only [shares_whole.f,Option.bind_some]
  rw [whole_num,whole_den] at hx
  refine Ev.bind hx ?_
  exact losses_l0 h (g:=fun c=>min c L) (fun n _ hn=>hsm _ (List.mem_map.2 ⟨n,hn,rfl⟩)) l.length 0 (by omega)
omit h h0 h1 in
theorem map_half (L:Rat):((cl l).map (· / 2)).map (fun c=>min c L) = (cl l).map fun c=>min (c / 2) L:=by rw [List.map_map];rfl
theorem ev_low (hlow:2 * E ≤ sI l):∃ L,tot ((cl l).map fun c=>min (c / 2) L) = (E:Rat) ∧ Ev (fun k=>shares_equal.f k (encL ((cl l).map (· / 2))) E 1) (encL ((cl l).map fun c=>min (c / 2) L)):=by
 have hlen:((cl l).map (· / 2)).length ≤ 10:=by rw [List.length_map,cl_length];exact h.ten
 have hle:(E:Rat) ≤ tot ((cl l).map (· / 2)):=by
  rw [half_cl]
  have:((2 * E:Int):Rat) ≤ (sI l:Rat):=int_rat_le.2 hlow
  push_cast at this
  grind
 obtain ⟨x,⟨L,rfl,ht⟩,hx⟩:=ev_equal (cl_half_okC h) hlen (E_ge h0) hle (E_den E)
 rw [map_half] at ht hx
 rw [whole_num,whole_den] at hx
 exact ⟨L,ht,hx⟩
theorem low_cond (hlow:2 * E ≤ sI l):2 * (E:Rat) ≤ tot (cl l):=by
 rw [tot_cl]
 have:((2 * E:Int):Rat) ≤ (sI l:Rat):=int_rat_le.2 hlow
 push_cast at this
 exact this
theorem high_cond (hlow:¬ 2 * E ≤ sI l):tot (cl l) < 2 * (E:Rat):=by
 rw [tot_cl]
 have:((sI l:Int):Rat) < ((2 * E:Int):Rat):=Rat.intCast_lt_intCast.2 (by omega)
 push_cast at this
 exact this
theorem ev_talmud:∃ x,IsRule 3 (cl l) (E:Rat) x ∧ Ev (fun k=>shares_claims_talmud.f k l E) (encL x):=by
 have hs:=sI_cl h
 have htot:=ev_total h.mem (by have:=h.ten;omega)
 have hge:=E_ge h0
 have hle:=E_le h h0 h1
 unfold shares_claims_talmud.f
 by_cases hlow:2 * E ≤ sI l
 ·obtain ⟨L,ht,hx⟩:=ev_low h h0 h1 hlow
  refine ⟨_,⟨fun c=>min (c / 2) L,.inl ⟨low_cond h h0 h1 hlow,L,rfl⟩,rfl,ht⟩,?_⟩
  refine Ev.bind htot ?_
  rw [wrap_id (by omega) (by omega)]
  refine Ev.congr (fun k=>if_pos hlow) ?_
  refine Ev.bind (ev_halves h E) ?_
  simp only [shares_whole.f,Option.bind_some]
  exact Ev.bind hx (Ev.now _)
 ·have hlen:((cl l).map (· / 2)).length ≤ 10:=by rw [List.length_map,cl_length];exact h.ten
  have hd:(0:Rat) ≤ ((sI l - E:Int):Rat):=E_ge (by omega)
  have e:((sI l - E:Int):Rat) = tot (cl l) - (E:Rat):=by rw [tot_cl];push_cast;rfl
  have hhi:=high_cond h h0 h1 hlow
  have hh:=half_cl l
  rw [← tot_cl] at hh
  obtain ⟨x,⟨L,rfl,ht⟩,hx⟩:=ev_equal (cl_half_okC h) hlen hd (by rw [e,hh];grind) (E_den _)
  have hsm:=min_small (cl_half_okC h) hlen hd (E_den _) ht
  rw [map_half] at ht hx
  refine ⟨_,⟨fun c=>c - min (c / 2) L,.inr ⟨hhi,L,rfl⟩,rfl,?_⟩,?_⟩
  ·have:=tot_sub (fun c=>c) (fun c=>min (c / 2) L) (cl l)
   rw [List.map_id'] at this
   rw [this,ht,e];grind
  ·refine Ev.bind htot ?_
   rw [wrap_id (x:=2 * E) (by omega) (by omega)]
   refine Ev.congr (fun k=>if_neg hlow) ?_
   refine Ev.bind (ev_halves h E) (Ev.bind htot ?_)
   rw [wrap_id (by omega) (by omega)]
   simp only [shares_whole.f,Option.bind_some]
   rw [whole_num,whole_den] at hx
   refine Ev.bind hx ?_
   exact talmud_l0 h (g:=fun c=>min (c / 2) L) (fun n _ hn=>hsm _ (List.mem_map.2 ⟨(n:Rat),List.mem_map.2 ⟨n,hn,rfl⟩,rfl⟩)) l.length 0 (by omega)
theorem ev_piniles:∃ x,IsRule 4 (cl l) (E:Rat) x ∧ Ev (fun k=>shares_claims_piniles.f k l E) (encL x):=by
 have hs:=sI_cl h
 have htot:=ev_total h.mem (by have:=h.ten;omega)
 have hge:=E_ge h0
 have hle:=E_le h h0 h1
 unfold shares_claims_piniles.f
 by_cases hlow:2 * E ≤ sI l
 ·obtain ⟨L,ht,hx⟩:=ev_low h h0 h1 hlow
  refine ⟨_,⟨fun c=>min (c / 2) L,.inl ⟨low_cond h h0 h1 hlow,L,rfl⟩,rfl,ht⟩,?_⟩
  refine Ev.bind htot ?_
  rw [wrap_id (by omega) (by omega)]
  refine Ev.congr (fun k=>if_pos hlow) ?_
  refine Ev.bind (ev_halves h E) ?_
  simp only [shares_whole.f,Option.bind_some]
  exact Ev.bind hx (Ev.now _)
 ·have hlen:((cl l).map (· / 2)).length ≤ 10:=by rw [List.length_map,cl_length];exact h.ten
  have hhi:=high_cond h h0 h1 hlow
  have hh:=half_cl l
  have hq:mkRat (sI l) 2 = (sI l:Rat) / 2:=mk_frac _ _
  have hden:((E:Rat) - (sI l:Rat) / 2).den ∣ 2:=sub_den_dvd' (E_den E) (by rw [← hq];exact den_dvd _ (by omega)) (by omega)
  rw [tot_cl] at hhi hle
  have hd:(0:Rat) ≤ (E:Rat) - (sI l:Rat) / 2:=by grind
  obtain ⟨x,⟨L,rfl,ht⟩,hx⟩:=ev_equal (cl_half_okC h) hlen hd (by rw [hh];grind) hden
  have hsm:=min_small (cl_half_okC h) hlen hd hden ht
  refine ⟨((cl l).map (· / 2)).map fun c=>c + min c L,⟨fun c=>c / 2 + min (c / 2) L,.inr ⟨by rw [tot_cl];exact hhi,L,rfl⟩,by rw [List.map_map];rfl,?_⟩,?_⟩
  ·have:=tot_add (fun c=>c) (fun c=>min c L) ((cl l).map (· / 2))
   rw [List.map_id'] at this
   rw [this,ht,hh];grind
  ·refine Ev.bind htot ?_
   rw [wrap_id (x:=2 * E) (by omega) (by omega)]
   refine Ev.congr (fun k=>if_neg hlow) ?_
   refine Ev.bind (ev_halves h E) ?_
   simp only [shares_whole.f,Option.bind_some]
   refine Ev.bind htot (Ev.bind (ev_frac (sI l) 2 (by omega) (by omega) (by omega)) ?_)
   have hm:=ev_minus (p:=(E:Rat)) (q:=(sI l:Rat) / 2) ((Sm.int (n:=E) (A:=10000) (by omega)).fits (Sm.int (n:=sI l) (A:=10000) (by omega)).half (by decide) (by decide))
   rw [whole_num,whole_den] at hm
   rw [hq]
   refine Ev.bind hm (Ev.bind hx (Ev.bind (ev_halves h E) ?_))
   rw [encL_length]
   exact piniles_l0 (cl_half_okC h) hlen (g:=fun c=>min c L) hsm ((cl l).map (· / 2)).length 0 (by omega)
theorem ev_prop:∃ x,IsRule 0 (cl l) (E:Rat) x ∧ Ev (fun k=>shares_claims_proportional.f k l E) (encL x):=by
 have hs:=sI_cl h
 have htot:=ev_total h.mem (by have:=h.ten;omega)
 obtain ⟨a,ha⟩:∃ a:Nat,mx 1 (sI l) = (a:Int):=⟨(mx 1 (sI l)).toNat,by unfold mx;split <;> omega⟩
 have ha1:0 < a ∧ a ≤ 10000:=by unfold mx at ha;split at ha <;> omega
 have hev:=prop_l0 h h0 (by omega) ha1.1 ha1.2 l.length 0 (by omega)
 refine ⟨(cl l).map fun c=>c * (E:Rat) / (a:Rat),⟨fun c=>if 0 < tot (cl l) then c * (E:Rat) / tot (cl l) else 0,rfl,?_,?_⟩,?_⟩
 ·refine List.map_congr_left fun c hc=>?_
  obtain ⟨n,hn,rfl⟩:=List.mem_map.1 hc
  by_cases hp:0 < sI l
  ·have hp':0 < tot (cl l):=by rw [tot_cl];exact Rat.intCast_pos.2 hp
   have e:(a:Rat) = tot (cl l):=by
    rw [tot_cl]
    have:(a:Int) = sI l:=by unfold mx at ha;split at ha <;> omega
    rw [← this];push_cast;rfl
   rw [if_pos hp',e]
  ·have hp':¬ 0 < tot (cl l):=by rw [tot_cl];exact fun k=>hp (Rat.intCast_pos.1 k)
   rw [if_neg hp']
   have hE:E = 0:=by omega
   subst hE
   have:((0:Int):Rat) = 0:=rfl
   rw [this,Rat.mul_zero,Rat.div_def,Rat.zero_mul]
 ·by_cases hp:0 < sI l
  ·have e:(a:Rat) = tot (cl l):=by
    rw [tot_cl]
    have:(a:Int) = sI l:=by unfold mx at ha;split at ha <;> omega
    rw [← this];push_cast;rfl
   have hp':0 < tot (cl l):=by rw [tot_cl];exact Rat.intCast_pos.2 hp
   have e2:((cl l).map fun c=>c * (E:Rat) / (a:Rat)) = (cl l).map fun c=>c * ((E:Rat) / (a:Rat)):=List.map_congr_left fun c _=>by
    rw [Rat.div_def,Rat.div_def,Rat.mul_assoc]
   rw [e2,tot_mul (fun c=>c),List.map_id',e,Rat.mul_comm]
   exact Rat.div_mul_cancel (by grind)
  ·have hE:E = 0:=by omega
   subst hE
   have e2:((cl l).map fun c=>c * ((0:Int):Rat) / (a:Rat)) = (cl l).map fun c=>c * 0:=List.map_congr_left fun c _=>by
    have:((0:Int):Rat) = 0:=rfl
    rw [this,Rat.mul_zero,Rat.div_def,Rat.zero_mul]
   rw [e2,tot_mul (fun c=>c),Rat.mul_zero]
   rfl
 ·unfold shares_claims_proportional.f
  refine Ev.bind htot ?_
  rw [ha]
  exact hev
theorem ev_Award {r:Nat} (hr:r ≤ 4):∃ x,IsRule r (cl l) (E:Rat) x ∧ Ev (fun k=>shares_Award.f k (r:Int) l E) (encL x,0):=by
 have hc:clB l E = true:=decide_eq_true ⟨h,h0,h1⟩
 have hf:H.fitL l:=by unfold H.fitL;have:=h.ten;omega
 have hn:=ev_newClaims hf E
 rw [hc] at hn
 unfold shares_Award.f
 obtain rfl | rfl | rfl | rfl | rfl:r = 0 ∨ r = 1 ∨ r = 2 ∨ r = 3 ∨ r = 4:=by omega
 ·obtain ⟨x,h1,h2⟩:=ev_prop h h0 h1
  exact ⟨x,h1,Ev.bind hn (Ev.bind h2 (Ev.now _))⟩
 ·obtain ⟨x,h1,h2⟩:=ev_awards h h0 h1
  exact ⟨x,h1,Ev.bind hn (Ev.bind h2 (Ev.now _))⟩
 ·obtain ⟨x,h1,h2⟩:=ev_losses h h0 h1
  exact ⟨x,h1,Ev.bind hn (Ev.bind h2 (Ev.now _))⟩
 ·obtain ⟨x,h1,h2⟩:=ev_talmud h h0 h1
  exact ⟨x,h1,Ev.bind hn (Ev.bind h2 (Ev.now _))⟩
 ·obtain ⟨x,h1,h2⟩:=ev_piniles h h0 h1
  exact ⟨x,h1,Ev.bind hn (Ev.bind h2 (Ev.now _))⟩
end
theorem ev_Award_no {l:List Int} (hf:H.fitL l) {E:Int} (hc:clB l E = false) (r:Int):Ev (fun k=>shares_Award.f k r l E) ([],2):=by
 have hn:=ev_newClaims hf E
 rw [hc] at hn
 unfold shares_Award.f
 exact Ev.bind hn (Ev.now _)
theorem ev_Award_bad {l:List Int} (hf:H.fitL l) (E:Int) {r:Int} (hr:¬ (0 ≤ r ∧ r ≤ 4)):Ev (fun k=>shares_Award.f k r l E) ([],2):=by
 have hn:=ev_newClaims hf E
 unfold shares_Award.f
 refine Ev.bind hn ?_
 refine Ev.congr (f:=fun _=>some ([],2)) (fun k=>?_) (Ev.now _)
 rw [if_neg (show ¬ r = 0 by omega),if_neg (show ¬ r = 1 by omega),if_neg (show ¬ r = 2 by omega),if_neg (show ¬ r = 3 by omega),if_neg (show ¬ r = 4 by omega),ite_self]
end Go.Proofs.Ytjohcjfmlhihbaa.P
namespace Go.Proofs.Ytjohcjfmlhihbaa.G
open Go.RowKit Go.Proofs.YtjohcjfmlhihbaaW.PrintWords Go.Proofs.YtjohcjfmlhihbaaW.PrintLast Go.Proofs.YtjohcjfmlhihbaaW.PrintMore
set_option maxHeartbeats 8000000
set_option maxRecDepth 100000
attribute [local go_sem] cond_true cond_false fld23_0 fld23_1 fld45_0 fld45_1 fld109_0 fld109_1 fld94_0 fld94_1 max2_int min2_int max_two min_two max_three min_three max_four min_four
mutual
def numnahref07_Award.l0:Nat → Int → List Int → Int → Int → List (S23) → Int → Option ((List (S23)))
 | 0,_,_,_,_,_,_=>none
 | k + 1,x0,x1,x2,x7,x8,x9=>if x9 < (x1.length:Int) then (if 0 ≤ x9 then ((numnahref07_Whole.f (rd x1 x9)).bind fun bt721=>((numnahref07_Whole.f 0).bind fun bt724=>(if x0 = 0 then (numnahref07_Award.j1 k x0 x1 x2 x7 x8 x9 (decide (x7 > 0)) bt721.1 bt721.2 bt724.1 bt724.2) else (numnahref07_Award.j1 k x0 x1 x2 x7 x8 x9 false bt721.1 bt721.2 bt724.1 bt724.2)))) else (none)) else (some x8)
def numnahref07_Award.j1:Nat → Int → List Int → Int → Int → List (S23) → Int → Bool → Int → Int → Int → Int → Option ((List (S23)))
 | 0,_,_,_,_,_,_,_,_,_,_,_=>none
 | k + 1,x0,x1,x2,x7,x8,x9,x26,x724000,x724001,x727000,x727001=>if x26 = true then (if 0 ≤ x9 then (if x9 < (x1.length:Int) then ((numnahref07_Reduced.f k (wrap64 ((rd x1 x9) * x2)) x7).bind fun bt728=>(if x8.length < 8796093022208 then (numnahref07_Award.l0 k x0 x1 x2 x7 (x8 ++ [(⟨bt728.1,bt728.2⟩:S23)]) (wrap64 (x9 + 1))) else (none))) else (none)) else (none)) else (if x0 = 1 then ((numnahref07_equal.f k x1 x2).bind fun t733=>(if 0 ≤ x9 then (if x9 < (t733.length:Int) then (if x8.length < 8796093022208 then (numnahref07_Award.l0 k x0 x1 x2 x7 (x8 ++ [(⟨(rd_T23 t733 x9).f0,(rd_T23 t733 x9).f1⟩:S23)]) (wrap64 (x9 + 1))) else (none)) else (none)) else (none))) else (if x0 = 2 then ((numnahref07_equal.f k x1 (wrap64 (x7 - x2))).bind fun t740=>(if 0 ≤ x9 then (if x9 < (t740.length:Int) then ((numnahref07_Sub.f k x724000 x724001 ((rd_T23 t740 x9).f0) ((rd_T23 t740 x9).f1)).bind fun bt744=>(if x8.length < 8796093022208 then (numnahref07_Award.l0 k x0 x1 x2 x7 (x8 ++ [(⟨bt744.1,bt744.2⟩:S23)]) (wrap64 (x9 + 1))) else (none))) else (none)) else (none))) else (if x0 ≥ 3 then (numnahref07_Award.j2 k x0 x1 x2 x7 x8 x9 (decide ((wrap64 (2 * x2)) ≤ x7)) x724000 x724001 x727000 x727001) else (numnahref07_Award.j2 k x0 x1 x2 x7 x8 x9 false x724000 x724001 x727000 x727001))))
def numnahref07_Award.j2:Nat → Int → List Int → Int → Int → List (S23) → Int → Bool → Int → Int → Int → Int → Option ((List (S23)))
 | 0,_,_,_,_,_,_,_,_,_,_,_=>none
 | k + 1,x0,x1,x2,x7,x8,x9,x63,x724000,x724001,x727000,x727001=>if x63 = true then ((numnahref07_equal.f k x1 (wrap64 (2 * x2))).bind fun t749=>(if 0 ≤ x9 then (if x9 < (t749.length:Int) then ((numnahref07_Half.f k ((rd_T23 t749 x9).f0) ((rd_T23 t749 x9).f1)).bind fun bt753=>(if x8.length < 8796093022208 then (numnahref07_Award.l0 k x0 x1 x2 x7 (x8 ++ [(⟨bt753.1,bt753.2⟩:S23)]) (wrap64 (x9 + 1))) else (none))) else (none)) else (none))) else (if x0 = 3 then ((numnahref07_equal.f k x1 (wrap64 (2 * (wrap64 (x7 - x2))))).bind fun t758=>(if 0 ≤ x9 then (if x9 < (t758.length:Int) then ((numnahref07_Half.f k ((rd_T23 t758 x9).f0) ((rd_T23 t758 x9).f1)).bind fun bt762=>((numnahref07_Sub.f k x724000 x724001 bt762.1 bt762.2).bind fun bt764=>(if x8.length < 8796093022208 then (numnahref07_Award.l0 k x0 x1 x2 x7 (x8 ++ [(⟨bt764.1,bt764.2⟩:S23)]) (wrap64 (x9 + 1))) else (none)))) else (none)) else (none))) else (if x0 = 4 then ((numnahref07_equal.f k x1 (wrap64 ((wrap64 (2 * x2)) - x7))).bind fun t769=>(if 0 ≤ x9 then (if x9 < (t769.length:Int) then ((numnahref07_Add.f k x724000 x724001 ((rd_T23 t769 x9).f0) ((rd_T23 t769 x9).f1)).bind fun bt773=>((numnahref07_Half.f k bt773.1 bt773.2).bind fun bt775=>(if x8.length < 8796093022208 then (numnahref07_Award.l0 k x0 x1 x2 x7 (x8 ++ [(⟨bt775.1,bt775.2⟩:S23)]) (wrap64 (x9 + 1))) else (none)))) else (none)) else (none))) else (if x8.length < 8796093022208 then (numnahref07_Award.l0 k x0 x1 x2 x7 (x8 ++ [(⟨x727000,x727001⟩:S23)]) (wrap64 (x9 + 1))) else (none))))
end
def numnahref07_Award.f (k:Nat) (a0:Int) (l1:List Int) (a2:Int):Option ((List (S23))):=(numnahref07_total.f k l1).bind fun t719=>(numnahref07_Award.l0 k a0 l1 a2 t719 ([]:List (S23)) 0)
theorem numnahref07_Award.mono_l:∀ k,(∀ y0 y1 y2 y3 y4 y5,LeO (numnahref07_Award.l0 k y0 y1 y2 y3 y4 y5) (numnahref07_Award.l0 (k + 1) y0 y1 y2 y3 y4 y5)) ∧ (∀ y0 y1 y2 y3 y4 y5 y6 y7 y8 y9 y10,LeO (numnahref07_Award.j1 k y0 y1 y2 y3 y4 y5 y6 y7 y8 y9 y10) (numnahref07_Award.j1 (k + 1) y0 y1 y2 y3 y4 y5 y6 y7 y8 y9 y10)) ∧ (∀ y0 y1 y2 y3 y4 y5 y6 y7 y8 y9 y10,LeO (numnahref07_Award.j2 k y0 y1 y2 y3 y4 y5 y6 y7 y8 y9 y10) (numnahref07_Award.j2 (k + 1) y0 y1 y2 y3 y4 y5 y6 y7 y8 y9 y10))
 | 0=>⟨fun _ _ _ _ _ _ r h=>by simp [numnahref07_Award.l0] at h,fun _ _ _ _ _ _ _ _ _ _ _ r h=>by simp [numnahref07_Award.j1] at h,fun _ _ _ _ _ _ _ _ _ _ _ r h=>by simp [numnahref07_Award.j2] at h⟩
 | k + 1=>by
  obtain ⟨ih0,ih1,ih2⟩:=numnahref07_Award.mono_l k
  refine ⟨?_,?_,?_⟩
  ·intro y0 y1 y2 y3 y4 y5
   unfold numnahref07_Award.l0
   repeat' first
   | (with_reducible first | exact ih0 _ _ _ _ _ _ | exact ih1 _ _ _ _ _ _ _ _ _ _ _ | exact ih2 _ _ _ _ _ _ _ _ _ _ _ | exact numnahref07_Add.mono _ _ _ _ _ | exact numnahref07_Half.mono _ _ _ | exact numnahref07_Reduced.mono _ _ _ | exact numnahref07_Sub.mono _ _ _ _ _ | exact numnahref07_equal.mono _ _ _ | exact numnahref07_total.mono _ _ | exact LeO.refl _ | exact LeO.none _ | refine LeO.ite ?_ ?_ | refine LeO.bind ?_ (fun _=>?_))
   | exact LeO.none _ | refine LeO.ite ?_ ?_ | refine LeO.bind ?_ (fun _=>?_)
  ·intro y0 y1 y2 y3 y4 y5 y6 y7 y8 y9 y10
   unfold numnahref07_Award.j1
   repeat' first
   | (with_reducible first | exact ih0 _ _ _ _ _ _ | exact ih1 _ _ _ _ _ _ _ _ _ _ _ | exact ih2 _ _ _ _ _ _ _ _ _ _ _ | exact numnahref07_Add.mono _ _ _ _ _ | exact numnahref07_Half.mono _ _ _ | exact numnahref07_Reduced.mono _ _ _ | exact numnahref07_Sub.mono _ _ _ _ _ | exact numnahref07_equal.mono _ _ _ | exact numnahref07_total.mono _ _ | exact LeO.refl _ | exact LeO.none _ | refine LeO.ite ?_ ?_ | refine LeO.bind ?_ (fun _=>?_))
   | exact LeO.none _ | refine LeO.ite ?_ ?_ | refine LeO.bind ?_ (fun _=>?_)
  intro y0 y1 y2 y3 y4 y5 y6 y7 y8 y9 y10
  unfold numnahref07_Award.j2
  repeat' first
  | (with_reducible first | exact ih0 _ _ _ _ _ _ | exact ih1 _ _ _ _ _ _ _ _ _ _ _ | exact ih2 _ _ _ _ _ _ _ _ _ _ _ | exact numnahref07_Add.mono _ _ _ _ _ | exact numnahref07_Half.mono _ _ _ | exact numnahref07_Reduced.mono _ _ _ | exact numnahref07_Sub.mono _ _ _ _ _ | exact numnahref07_equal.mono _ _ _ | exact numnahref07_total.mono _ _ | exact LeO.refl _ | exact LeO.none _ | refine LeO.ite ?_ ?_ | refine LeO.bind ?_ (fun _=>?_))
  | exact LeO.none _ | refine LeO.ite ?_ ?_ | refine LeO.bind ?_ (fun _=>?_)
theorem numnahref07_Award.mono:∀ a0 a1 a2 k,LeO (numnahref07_Award.f k a0 a1 a2) (numnahref07_Award.f (k + 1) a0 a1 a2):=by
 intro a0 a1 a2 k
 obtain ⟨ih0,ih1,ih2⟩:=numnahref07_Award.mono_l k
 unfold numnahref07_Award.f
 repeat' first
   | (with_reducible first | exact ih0 _ _ _ _ _ _ | exact ih1 _ _ _ _ _ _ _ _ _ _ _ | exact ih2 _ _ _ _ _ _ _ _ _ _ _ | exact numnahref07_Add.mono _ _ _ _ _ | exact numnahref07_Half.mono _ _ _ | exact numnahref07_Reduced.mono _ _ _ | exact numnahref07_Sub.mono _ _ _ _ _ | exact numnahref07_equal.mono _ _ _ | exact numnahref07_total.mono _ _ | exact LeO.refl _ | exact LeO.none _ | refine LeO.ite ?_ ?_ | refine LeO.bind ?_ (fun _=>?_))
   | exact LeO.none _ | refine LeO.ite ?_ ?_ | refine LeO.bind ?_ (fun _=>?_)
def numnahref07_Award.T13:Bool × List (List Nat × List Nat):=(true,[([],[]),([],[]),([],[]),([],[]),([2,3],[2,3]),([1,4],[1,4]),([],[]),([5,6],[5,6]),([7],[7]),([0,8,5],[0,8]),([9,9,0,1,2,3,4,5,6,7,8,9],[9])])
def numnahref07_Award.B13:List Nat:=[0,0,0,0,12,30,0,126,254,511,1023]
theorem numnahref07_Award.tab13:rtab .any (opsOf Try.f38 13) = numnahref07_Award.T13:=by kernel_rfl
theorem numnahref07_Award.bits13:waitsOk numnahref07_Award.T13.2 numnahref07_Award.B13 = true:=by kernel_rfl
def numnahref07_Award.T17:Bool × List (List Nat × List Nat):=(true,[([],[]),([],[]),([],[]),([],[]),([2,3],[2,3]),([4],[4]),([1,5],[1,5]),([],[]),([6,7],[6,7]),([8],[8]),([9,6],[9]),([0,10,10],[0,10]),([11,11,0,1,2,3,4,5,6,7,8,9,10,11],[11])])
def numnahref07_Award.B17:List Nat:=[0,0,0,0,12,28,62,0,254,510,1022,2047,4095]
theorem numnahref07_Award.tab17:rtab .any (opsOf Try.f38 17) = numnahref07_Award.T17:=by kernel_rfl
theorem numnahref07_Award.bits17:waitsOk numnahref07_Award.T17.2 numnahref07_Award.B17 = true:=by kernel_rfl
def numnahref07_Award.T19:Bool × List (List Nat × List Nat):=(true,[([],[]),([],[]),([],[]),([2],[2]),([],[]),([3,4],[3,4]),([1,5],[1,5]),([],[]),([6,7],[6,7]),([8],[8]),([0,9,6],[0,9]),([10,10],[10]),([11,11,0,1,2,3,4,5,6,7,8,9,10,11],[11])])
def numnahref07_Award.B19:List Nat:=[0,0,0,4,0,28,62,0,254,510,1023,2047,4095]
theorem numnahref07_Award.tab19:rtab .any (opsOf Try.f38 19) = numnahref07_Award.T19:=by kernel_rfl
theorem numnahref07_Award.bits19:waitsOk numnahref07_Award.T19.2 numnahref07_Award.B19 = true:=by kernel_rfl
theorem numnahref07_Award.calls (k:Nat) (a0:Int) (A1:Option Addr) (c1:Nat) (l1:List Int) (a2:Int) (r:List (S23)) (w:World) (hr1:Kd.C (Kd.int .i64) w A1 l1.length l1) (hc1:l1.length ≤ c1) (h:numnahref07_Award.f k a0 l1 a2 = some r) :
  Calls Try.prog 38 #[.int .i64 a0,.slice A1 l1.length c1,.int .i64 a2] w fun e w'=>∃ v0_:Value,e = .returned (v0_) ∧ Kd.R k23 23 w' w.heap.size (fun _=>True) v0_ r ∧ Below w.heap.size w w':=by
 have hu23:=Try.underlying23
 have HR1:=A_ hr1
 have HC1:=A_ hc1
 clear hr1 hc1
 have HB:=A_ (Below.refl w.heap.size w)
 have H:((numnahref07_total.f k l1).bind fun t719=>(numnahref07_Award.l0 k a0 l1 a2 t719 ([]:List (S23)) 0)) = some r:=h
 clear h
 replace H:=Option.bind_eq_some_iff.mp H
 obtain ⟨t719,A40,H⟩:=H
 replace H:(numnahref07_Award.l0 k a0 l1 a2 t719 ([]:List (S23)) 0) = some r:=H
 have A4:=A_ A40
 clear A40
 have H':=A_ H
 clear H
 go_enter Try.func38,Try.ntmps38
 go_wp2_with (first | ((with_reducible refine gate_callee (f:=65) rfl ?_);refine gL (some 13) Try.func65 #[.slice A1 l1.length c1] ?_;(with_reducible refine (numnahref07_total.calls k _ _ l1 t719 _ ?side1 ?side2 A4.out).mono ?_);(case side1=>repeat (first | exact HR1.out | (with_reducible refine Kd.C_alloc ?_ _) | (with_reducible refine Kd.C_drewN ?_ _) | (with_reducible refine Kd.C_drew ?_)));(case side2=>exact HC1.out);rintro e w' ⟨rfl,⟨nd,rfl⟩⟩;refine ⟨_,rfl,?_⟩))
 go_loopg [8,9] k (fun kq v8 v9 w'=>∃ (x8_1:List (S23)) (x9_1:Int),v9 = .int .i64 x9_1 ∧ Aside0 (numnahref07_Award.l0 kq a0 l1 a2 t719 x8_1 x9_1 = some r) ∧ Aside0 (kq ≤ k) ∧ Aside0 (Kd.R k23 23 w' w.heap.size (fun _=>True) v8 x8_1) ∧ Aside0 (Below w.heap.size w w'))
 case atStart=>exact ⟨(([]:List (S23))),(0),(by first | rfl | (simp;done) | (simp [*];done)),H',⟨Nat.le_refl _⟩,⟨by first | exact Kd.R_nil _ _ _ _ _ | exact Kd.N_nil _ _ _ _ _ | exact Kd.V_nil _ _ _ _ _ | exact Kd.Q_nil _ _ _ _ _ | exact Kd.S_nil _ _ _ _ _⟩,⟨bl HB⟩⟩
 case round =>
  clear H'
  obtain ⟨x8_1,x9_1,rfl,HA,HK1,HO_8,HB⟩:=hrel
  cases gk with
  | zero=>exact absurd HA.out (by simp [numnahref07_Award.l0])
  | succ k1 =>
   have H:=HA.out
   clear HA
   simp only [numnahref07_Award.l0] at H
   by_cases c5:x9_1 < (l1.length:Int)
   case neg =>
    rw [if_neg c5] at H
    have c5b0:=decide_eq_false c5
    clear c5
    obtain rfl:=Option.some.inj H
    go_wp2
    go_ret
    exact ⟨_,by first | rfl | (simp [errW_none,errW_some] <;> rfl) | (simp [*,errW_none,errW_some] <;> rfl),by (with_reducible repeat (first | apply Kd.R_alloc | apply Kd.R_drewN | apply Kd.R_drew));exact HO_8.out,bl HB⟩
   rw [if_pos c5] at H
   have c5b0:=decide_eq_true c5
   clear c5
   replace H:=gd H
   obtain ⟨c6,H⟩:=H
   have c6b0:=decide_eq_true c6
   clear c6
   replace H:=Option.bind_eq_some_iff.mp H
   obtain ⟨⟨t721,t722⟩,A70,H⟩:=H
   dsimp only at H
   have A7:=A_ A70
   clear A70
   replace H:=Option.bind_eq_some_iff.mp H
   obtain ⟨⟨t724,t725⟩,A80,H⟩:=H
   dsimp only at H
   have A8:=A_ A80
   clear A80
   have HC9:=A_ H
   clear H
   have p720:0 ≤ (x9_1:Int):=of_decide_eq_true (by first | (with_reducible assumption) | assumption)
   have q720:x9_1 < (l1.length:Int):=of_decide_eq_true (by first | (with_reducible assumption) | assumption)
   obtain ⟨ad720,e720,hx720_0⟩:=Kd.at_int HR1.out x9_1 p720 q720
   cases e720
   replace hx720_0:=(HB.out.cell (World.block_lt_of_cell? w _ hx720_0)).trans hx720_0
   replace p720:=eq_true p720
   replace q720:=eq_true q720
   go_upto_region 8 with (first | ((with_reducible refine gate_callee (f:=23) rfl ?_);refine gL (some 24) Try.func23 #[.int .i64 (rd l1 x9_1)] ?_;(with_reducible refine (numnahref07_Whole.calls (rd l1 x9_1) t721 t722 _ A7.out).mono ?_);rintro e w10 ⟨rfl,hb⟩;refine ⟨_,rfl,?_⟩;replace HO_8:=rB HO_8 hb;replace HB:=bB HB hb;(try clear hb)) | ((with_reducible refine gate_dst (N:=10) rfl ?_);refine bx 10 #[.int .i64 0,.int .i64 0] 23 ?_;intro gb723 hg w11 hbox hb;have BK723:=A_ hbox;have GW723:=gw hg HB;have GE723:=GW723;replace HO_8:=A_ (Kd.R_below (Kd.R_elderB (rs HO_8) gb723 (Nat.le_of_eq hg.symm)) hb);replace HB:=bB HB hb;clear hb hbox hg;have hcz12_0:w11.cell? ⟨gb723,0,none⟩ = some (.int .i64 0):=cz BK723 0;have hcz12_1:w11.cell? ⟨gb723,1,none⟩ = some (.int .i64 0):=cz BK723 1;have hfz12_0:=blk_frozen BK723.out 0;have hfz12_1:=blk_frozen BK723.out 1) | ((with_reducible refine gate_callee (f:=23) rfl ?_);refine gL (some 25) Try.func23 #[.int .i64 0] ?_;(with_reducible refine (numnahref07_Whole.calls 0 t724 t725 _ A8.out).mono ?_);rintro e w13 ⟨rfl,hb⟩;refine ⟨_,rfl,?_⟩;replace HO_8:=A_ (Kd.R_below (by (with_reducible repeat (first | apply Kd.R_alloc | apply Kd.R_drewN | apply Kd.R_drew));exact (Kd.R_mono (Kd.R_far (p:=⟨gb723,1,none⟩) (Kd.R_far (p:=⟨gb723,0,none⟩) (Kd.R_mono HO_8.out (fun k_ hk=>(⟨hk,hk.2⟩:_ ∧ k_ ≠ gb723))) (fun _ hk=>hk.2) (.int .i64 t721)) (fun _ hk=>hk.2) (.int .i64 t722)) (fun _ h_=>h_.1))) hb);replace BK723:=A_ (blk_below (g:=gb723) (o:=.cells #[.int .i64 t721,.int .i64 t722] 23 (0,0)) (by (with_reducible repeat (first | refine blk_drewN ?_ _ | refine blk_drew ?_ | refine blk_alloc ?_ _));refine blk_put (cs:=#[.int .i64 t721,.int .i64 0]) ?_ 1 _ rfl;(with_reducible repeat (first | refine blk_drewN ?_ _ | refine blk_drew ?_ | refine blk_alloc ?_ _));refine blk_put (cs:=#[.int .i64 0,.int .i64 0]) ?_ 0 _ rfl;(with_reducible repeat (first | refine blk_drewN ?_ _ | refine blk_drew ?_ | refine blk_alloc ?_ _));exact BK723.out) hb);replace HB:=bB HB hb;(try clear hb)) | ((with_reducible refine gate_dst (N:=11) rfl ?_);refine bx 11 #[.int .i64 0,.int .i64 0] 23 ?_;intro gb726 hg w14 hbox hb;have BK726:=A_ hbox;have GW726:=gw hg HB;have GE726:=GW726;have NB723_726:=nl hg BK723;have NB726_723:=ng hg BK723;replace HO_8:=A_ (Kd.R_below (Kd.R_elderB (rs HO_8) gb726 (Nat.le_of_eq hg.symm)) hb);replace BK723:=kB BK723 hb;replace HB:=bB HB hb;clear hb hbox hg;have hnb15:=NB726_723.out;have hnc15:=NB723_726.out;have hcz16_0:w14.cell? ⟨gb726,0,none⟩ = some (.int .i64 0):=cz BK726 0;have hcz16_1:w14.cell? ⟨gb726,1,none⟩ = some (.int .i64 0):=cz BK726 1;have hfz16_0:=blk_frozen BK726.out 0;have hfz16_1:=blk_frozen BK726.out 1))
   (try simp only [Act.put,List.setIfInBounds_toArray,List.set_cons_zero,List.set_cons_succ])
   go_cut [26] (fun v26 wc=>∃ (kq:Nat) (x26_8:Bool),v26 = .bool x26_8 ∧ Aside0 (numnahref07_Award.j1 kq a0 l1 a2 t719 x8_1 x9_1 x26_8 t721 t722 t724 t725 = some r) ∧ Aside0 (kq ≤ k1) ∧ Aside0 (Kd.R k23 23 wc w.heap.size (fun k_=>k_ ≠ gb723 ∧ k_ ≠ gb726) u8 x8_1) ∧ Aside0 (wc.heap[gb723]? = some (.cells #[.int .i64 t721,.int .i64 t722] 23 (0,0))) ∧ Aside0 (wc.heap[gb726]? = some (.cells #[.int .i64 t724,.int .i64 t725] 23 (0,0))) ∧ Aside0 (Below w.heap.size w wc))
   case first =>
    have H:=HC9.out
    clear HC9
    by_cases c17:a0 = 0
    case neg =>
     rw [if_neg c17] at H
     have c17b0:(a0 == 0) = false:=beq_eq_false_iff_ne.mpr c17
     have c17b1:(a0 != 0) = true:=bne_iff_ne.mpr c17
     (first | rw [c17b0] | (simp only [i64_w,i32_w];rw [c17b0]) | skip)
     have H':=A_ H
     clear H
     go_wp2
     go_meet
     case rel=>exact ⟨_,(false),(by first | rfl | (simp;done) | (simp [*];done)),H',⟨by have:=HK1.out;first | omega | exact Nat.le_refl _⟩,⟨by (with_reducible repeat (first | apply Kd.R_alloc | apply Kd.R_drewN | apply Kd.R_drew));exact Kd.R_mono (Kd.R_far (p:=⟨gb726,1,none⟩) (Kd.R_far (p:=⟨gb726,0,none⟩) (Kd.R_mono HO_8.out (fun k_ hk=>(⟨hk,hk.2⟩:_ ∧ k_ ≠ gb726))) (fun _ hk=>hk.2) (.int .i64 t724)) (fun _ hk=>hk.2) (.int .i64 t725)) (fun _ hk=>⟨hk.1.1.2,hk.1.2⟩)⟩,⟨by (with_reducible repeat (first | refine blk_drewN ?_ _ | refine blk_drew ?_ | refine blk_alloc ?_ _));refine blk_far ?_ NB723_726.out _;(with_reducible repeat (first | refine blk_drewN ?_ _ | refine blk_drew ?_ | refine blk_alloc ?_ _));refine blk_far ?_ NB723_726.out _;(with_reducible repeat (first | refine blk_drewN ?_ _ | refine blk_drew ?_ | refine blk_alloc ?_ _));exact BK723.out⟩,⟨by (with_reducible repeat (first | refine blk_drewN ?_ _ | refine blk_drew ?_ | refine blk_alloc ?_ _));refine blk_put (cs:=#[.int .i64 t724,.int .i64 0]) ?_ 1 _ rfl;(with_reducible repeat (first | refine blk_drewN ?_ _ | refine blk_drew ?_ | refine blk_alloc ?_ _));refine blk_put (cs:=#[.int .i64 0,.int .i64 0]) ?_ 0 _ rfl;(with_reducible repeat (first | refine blk_drewN ?_ _ | refine blk_drew ?_ | refine blk_alloc ?_ _));exact BK726.out⟩,⟨bl HB⟩⟩
    rw [if_pos c17] at H
    have c17b0:(a0 == 0) = true:=beq_iff_eq.mpr c17
    have c17b1:(a0 != 0) = false:=bne_eq_false_iff_eq.mpr c17
    clear c17
    (first | rw [c17b0] | (simp only [i64_w,i32_w];rw [c17b0]) | skip)
    have H':=A_ H
    clear H
    go_wp2
    go_meet
    case rel=>exact ⟨_,(decide (t719 > 0)),(by first | rfl | (simp;done) | (simp [*];done)),H',⟨by have:=HK1.out;first | omega | exact Nat.le_refl _⟩,⟨by (with_reducible repeat (first | apply Kd.R_alloc | apply Kd.R_drewN | apply Kd.R_drew));exact Kd.R_mono (Kd.R_far (p:=⟨gb726,1,none⟩) (Kd.R_far (p:=⟨gb726,0,none⟩) (Kd.R_mono HO_8.out (fun k_ hk=>(⟨hk,hk.2⟩:_ ∧ k_ ≠ gb726))) (fun _ hk=>hk.2) (.int .i64 t724)) (fun _ hk=>hk.2) (.int .i64 t725)) (fun _ hk=>⟨hk.1.1.2,hk.1.2⟩)⟩,⟨by (with_reducible repeat (first | refine blk_drewN ?_ _ | refine blk_drew ?_ | refine blk_alloc ?_ _));refine blk_far ?_ NB723_726.out _;(with_reducible repeat (first | refine blk_drewN ?_ _ | refine blk_drew ?_ | refine blk_alloc ?_ _));refine blk_far ?_ NB723_726.out _;(with_reducible repeat (first | refine blk_drewN ?_ _ | refine blk_drew ?_ | refine blk_alloc ?_ _));exact BK723.out⟩,⟨by (with_reducible repeat (first | refine blk_drewN ?_ _ | refine blk_drew ?_ | refine blk_alloc ?_ _));refine blk_put (cs:=#[.int .i64 t724,.int .i64 0]) ?_ 1 _ rfl;(with_reducible repeat (first | refine blk_drewN ?_ _ | refine blk_drew ?_ | refine blk_alloc ?_ _));refine blk_put (cs:=#[.int .i64 0,.int .i64 0]) ?_ 0 _ rfl;(with_reducible repeat (first | refine blk_drewN ?_ _ | refine blk_drew ?_ | refine blk_alloc ?_ _));exact BK726.out⟩,⟨bl HB⟩⟩
   case rest =>
    clear HC9
    obtain ⟨kq,x26_8,rfl,HA,HJ8,HO_8,BK723,BK726,HB⟩:=hcut
    cases kq with
    | zero=>exact absurd HA.out (by simp [numnahref07_Award.j1])
    | succ kj8 =>
     have H:=HA.out
     clear HA
     simp only [numnahref07_Award.j1] at H
     by_cases c18:x26_8 = true
     ·subst c18
      rw [if_pos rfl] at H
      replace H:=gd H
      obtain ⟨c19,H⟩:=H
      have c19b0:=decide_eq_true c19
      clear c19
      replace H:=gd H
      obtain ⟨c20,H⟩:=H
      have c20b0:=decide_eq_true c20
      clear c20
      replace H:=Option.bind_eq_some_iff.mp H
      obtain ⟨⟨t728,t729⟩,A210,H⟩:=H
      dsimp only at H
      have A21:=A_ A210
      clear A210
      replace H:=gd H
      obtain ⟨c22,H⟩:=H
      have LMc22:=A_ c22
      clear c22
      obtain ⟨y730,hy730⟩:∃ y_:List (S23),y_ = (x8_1 ++ [(⟨t728,t729⟩:S23)]):=⟨_,rfl⟩
      rw [← hy730] at H
      have Ny730:=A_ hy730
      clear hy730
      have H':=A_ H
      clear H
      have p727:0 ≤ (x9_1:Int):=of_decide_eq_true (by first | (with_reducible assumption) | assumption)
      have q727:x9_1 < (l1.length:Int):=of_decide_eq_true (by first | (with_reducible assumption) | assumption)
      obtain ⟨ad727,e727,hx727_0⟩:=Kd.at_int HR1.out x9_1 p727 q727
      obtain rfl:ad720 = ad727:=(by injection e727)
      replace hx727_0:=(HB.out.cell (World.block_lt_of_cell? w _ hx727_0)).trans hx727_0
      replace p727:=eq_true p727
      replace q727:=eq_true q727
      go_wp2_with (first | ((with_reducible refine gate_callee (f:=34) rfl ?_);refine gL (some 40) Try.func34 #[.int .i64 (wrap64 ((rd l1 x9_1) * a2)),.int .i64 t719] ?_;(with_reducible refine (numnahref07_Reduced.calls kj8 (wrap64 ((rd l1 x9_1) * a2)) t719 t728 t729 _ A21.out).mono ?_);rintro e w23 ⟨rfl,hb⟩;refine ⟨_,rfl,?_⟩;replace HO_8:=rB HO_8 hb;replace BK723:=kB BK723 hb;replace BK726:=kB BK726 hb;replace HB:=bB HB hb;(try clear hb);have hnb24:=NB726_723.out;have hnc24:=NB723_726.out;have hcz25_0:w23.cell? ⟨gb726,0,none⟩ = some (.int .i64 t724):=cz BK726 0;have hcz25_1:w23.cell? ⟨gb726,1,none⟩ = some (.int .i64 t725):=cz BK726 1;have hfz25_0:=blk_frozen BK726.out 0;have hfz25_1:=blk_frozen BK726.out 1) | ((with_reducible refine gate_builtin (b:=.append) (xs:=#[.tmp 110,.tmp 112]) rfl ?_);at_builtin;refine Kd.R_append k23 (w0:=w) w.heap.size rfl (.tmp 110) (.tmp 112) 35 23 (.agg #[(.int .i64 0),(.int .i64 0)]) 16 rfl Try.underlying35 info23 rfl (by decide) (by omega) u8 x8_1 (⟨t728,t729⟩:S23) [.int .i64 t728,.int .i64 t729] (fun k_=>k_ ≠ gb723 ∧ k_ ≠ gb726) (fun _=>False) rfl (by first | (go_simp;done) | (go_simp;rfl)) ?aP (fun _ hk=>hk.elim) ?aF ?aO ?aB ?aS ?aL ?_;(case aP=>exact k23_mkM _ _ _ (⟨t728,t729⟩:S23));(case aB=>exact (bl HB));(case aF=>exact (fun k_ hk=>⟨Kd.freshB (g:=gb723) (o:=.cells #[.int .i64 t721,.int .i64 t722] 23 (0,0)) (by (with_reducible repeat (first | refine blk_drewN ?_ _ | refine blk_drew ?_ | refine blk_alloc ?_ _));refine blk_far ?_ NB723_726.out _;(with_reducible repeat (first | refine blk_drewN ?_ _ | refine blk_drew ?_ | refine blk_alloc ?_ _));refine blk_far ?_ NB723_726.out _;(with_reducible repeat (first | refine blk_drewN ?_ _ | refine blk_drew ?_ | refine blk_alloc ?_ _));exact BK723.out) k_ hk,Kd.freshB (g:=gb726) (o:=.cells #[.int .i64 t728,.int .i64 t729] 23 (0,0)) (by (with_reducible repeat (first | refine blk_drewN ?_ _ | refine blk_drew ?_ | refine blk_alloc ?_ _));refine blk_put (cs:=#[.int .i64 t728,.int .i64 t725]) ?_ 1 _ rfl;(with_reducible repeat (first | refine blk_drewN ?_ _ | refine blk_drew ?_ | refine blk_alloc ?_ _));refine blk_put (cs:=#[.int .i64 t724,.int .i64 t725]) ?_ 0 _ rfl;(with_reducible repeat (first | refine blk_drewN ?_ _ | refine blk_drew ?_ | refine blk_alloc ?_ _));exact BK726.out) k_ hk⟩));(case aO=>exact (by (with_reducible repeat (first | apply Kd.R_alloc | apply Kd.R_drewN | apply Kd.R_drew));exact Kd.R_mono (Kd.R_far (p:=⟨gb726,1,none⟩) (Kd.R_far (p:=⟨gb726,0,none⟩) (Kd.R_mono HO_8.out (fun k_ hk=>(⟨hk,hk.2⟩:_ ∧ k_ ≠ gb726))) (fun _ hk=>hk.2) (.int .i64 t728)) (fun _ hk=>hk.2) (.int .i64 t729)) (fun _ hk=>⟨hk.1.1,hk.1.2⟩)));(case aS=>exact (below_size (bl HB)));(case aL=>have:=LMc22.out;omega);intro v731 w26 ho hb hg hat;rw [← Ny730.out] at ho;have HO732:=A_ ho;replace BK723:=A_ (blk_grown (g:=gb723) (o:=.cells #[.int .i64 t721,.int .i64 t722] 23 (0,0)) (by (with_reducible repeat (first | refine blk_drewN ?_ _ | refine blk_drew ?_ | refine blk_alloc ?_ _));refine blk_far ?_ NB723_726.out _;(with_reducible repeat (first | refine blk_drewN ?_ _ | refine blk_drew ?_ | refine blk_alloc ?_ _));refine blk_far ?_ NB723_726.out _;(with_reducible repeat (first | refine blk_drewN ?_ _ | refine blk_drew ?_ | refine blk_alloc ?_ _));exact BK723.out) hg (Kd.R_away HO_8.out (fun _ hk=>hk.1)));replace BK726:=A_ (blk_grown (g:=gb726) (o:=.cells #[.int .i64 t728,.int .i64 t729] 23 (0,0)) (by (with_reducible repeat (first | refine blk_drewN ?_ _ | refine blk_drew ?_ | refine blk_alloc ?_ _));refine blk_put (cs:=#[.int .i64 t728,.int .i64 t725]) ?_ 1 _ rfl;(with_reducible repeat (first | refine blk_drewN ?_ _ | refine blk_drew ?_ | refine blk_alloc ?_ _));refine blk_put (cs:=#[.int .i64 t724,.int .i64 t725]) ?_ 0 _ rfl;(with_reducible repeat (first | refine blk_drewN ?_ _ | refine blk_drew ?_ | refine blk_alloc ?_ _));exact BK726.out) hg (Kd.R_away HO_8.out (fun _ hk=>hk.2)));replace HB:=A_ hb;clear HO_8;clear ho hb hg hat))
      go_roundg kj8
      case measure=>have:=HK1.out;have:=HJ8.out;omega
      case rel=>exact ⟨(y730),(wrap64 (x9_1 + 1)),(by first | rfl | (simp;done) | (simp [*];done)),H',⟨by have:=HK1.out;have:=HJ8.out;omega⟩,⟨by (with_reducible repeat (first | apply Kd.R_alloc | apply Kd.R_drewN | apply Kd.R_drew));exact Kd.R_mono HO732.out (fun _ hk=>trivial)⟩,⟨bl HB⟩⟩
     replace c18:=Bool.eq_false_iff.mpr c18
     subst c18
     rw [if_neg (show ¬ (false = true) by decide)] at H
     by_cases c27:a0 = 1
     ·rw [if_pos c27] at H
      have c27b0:(a0 == 1) = true:=beq_iff_eq.mpr c27
      have c27b1:(a0 != 1) = false:=bne_eq_false_iff_eq.mpr c27
      clear c27
      replace H:=Option.bind_eq_some_iff.mp H
      obtain ⟨t733,A280,H⟩:=H
      replace H:(if 0 ≤ x9_1 then (if x9_1 < (t733.length:Int) then (if x8_1.length < 8796093022208 then (numnahref07_Award.l0 kj8 a0 l1 a2 t719 (x8_1 ++ [(⟨(rd_T23 t733 x9_1).f0,(rd_T23 t733 x9_1).f1⟩:S23)]) (wrap64 (x9_1 + 1))) else (none)) else (none)) else (none)) = some r:=H
      have A28:=A_ A280
      clear A280
      replace H:=gd H
      obtain ⟨c29,H⟩:=H
      have c29b0:=decide_eq_true c29
      clear c29
      replace H:=gd H
      obtain ⟨c30,H⟩:=H
      have c30b0:=decide_eq_true c30
      clear c30
      replace H:=gd H
      obtain ⟨c31,H⟩:=H
      have LMc31:=A_ c31
      clear c31
      obtain ⟨y737,hy737⟩:∃ y_:List (S23),y_ = (x8_1 ++ [(⟨(rd_T23 t733 x9_1).f0,(rd_T23 t733 x9_1).f1⟩:S23)]):=⟨_,rfl⟩
      rw [← hy737] at H
      have Ny737:=A_ hy737
      clear hy737
      have H':=A_ H
      clear H
      go_wp2_with (first | ((with_reducible refine gate_callee (f:=75) rfl ?_);refine gL (some 46) Try.func75 #[.slice (some ad720) l1.length c1,.int .i64 a2] ?_;(with_reducible refine (numnahref07_equal.calls kj8 _ _ l1 a2 t733 _ ?side1 ?side2 A28.out).mono ?_);(case side1=>exact cB HR1 HB);(case side2=>exact HC1.out);rintro e w32 ⟨v734,rfl,ho0,hb⟩;refine ⟨_,rfl,?_⟩;have HO735:=A_ (Kd.R_lower (Kd.R_newB (Kd.R_newB (Kd.R_new' ho0 (Kd.R_lt (rs HO_8))) (g:=gb723) (o:=.cells #[.int .i64 t721,.int .i64 t722] 23 (0,0)) (kb BK723)) (g:=gb726) (o:=.cells #[.int .i64 t724,.int .i64 t725] 23 (0,0)) (kb BK726)) (below_size (bl HB)));replace HO_8:=A_ (Kd.R_elder' (rs HO_8) (Kd.R_base ho0) hb);replace BK723:=kB BK723 hb;replace BK726:=kB BK726 hb;replace HB:=bB HB hb;(try clear hb);obtain ⟨Ao33,co33,eo33⟩:=Kd.R_slice HO735.out;subst eo33;have p736:0 ≤ (x9_1:Int):=of_decide_eq_true (by first | (with_reducible assumption) | assumption);have q736:x9_1 < (t733.length:Int):=of_decide_eq_true (by first | (with_reducible assumption) | assumption);obtain ⟨ad736,e736,hx736_0,hx736_1⟩:=at_T23 (Kd.R_reads' HO735.out).2.2 x9_1 p736 q736;cases e736;replace p736:=eq_true p736;replace q736:=eq_true q736;have hnb34:=NB726_723.out;have hnc34:=NB723_726.out;have hcz35_0:w32.cell? ⟨gb726,0,none⟩ = some (.int .i64 t724):=cz BK726 0;have hcz35_1:w32.cell? ⟨gb726,1,none⟩ = some (.int .i64 t725):=cz BK726 1;have hfz35_0:=blk_frozen BK726.out 0;have hfz35_1:=blk_frozen BK726.out 1) | ((with_reducible refine gate_builtin (b:=.append) (xs:=#[.tmp 110,.tmp 112]) rfl ?_);at_builtin;refine Kd.R_append k23 (w0:=w) w.heap.size rfl (.tmp 110) (.tmp 112) 35 23 (.agg #[(.int .i64 0),(.int .i64 0)]) 16 rfl Try.underlying35 info23 rfl (by decide) (by omega) u8 x8_1 (⟨(rd_T23 t733 x9_1).f0,(rd_T23 t733 x9_1).f1⟩:S23) [.int .i64 ((rd_T23 t733 x9_1).f0),.int .i64 ((rd_T23 t733 x9_1).f1)] (fun k_=>some k_ ≠ (.slice (some ad736) t733.length co33:Value).ownBlock ∧ k_ ≠ gb723 ∧ k_ ≠ gb726) (fun _=>False) rfl (by first | (go_simp;done) | (go_simp;rfl)) ?aP (fun _ hk=>hk.elim) ?aF ?aO ?aB ?aS ?aL ?_;(case aP=>exact k23_mkM _ _ _ (⟨(rd_T23 t733 x9_1).f0,(rd_T23 t733 x9_1).f1⟩:S23));(case aB=>exact (bl HB));(case aF=>exact (fun k_ hk=>⟨Kd.fresh' (Kd.R_lt (by (with_reducible repeat (first | apply Kd.R_alloc | apply Kd.R_drewN | apply Kd.R_drew));exact (Kd.R_mono (Kd.R_far (p:=⟨gb726,1,none⟩) (Kd.R_far (p:=⟨gb726,0,none⟩) (Kd.R_mono HO735.out (fun k_ hk=>(⟨hk,hk.2⟩:_ ∧ k_ ≠ gb726))) (fun _ hk=>hk.2) (.int .i64 ((rd_T23 t733 x9_1).f0))) (fun _ hk=>hk.2) (.int .i64 ((rd_T23 t733 x9_1).f1))) (fun _ h_=>h_.1)))) k_ hk,Kd.freshB (g:=gb723) (o:=.cells #[.int .i64 t721,.int .i64 t722] 23 (0,0)) (by (with_reducible repeat (first | refine blk_drewN ?_ _ | refine blk_drew ?_ | refine blk_alloc ?_ _));refine blk_far ?_ NB723_726.out _;(with_reducible repeat (first | refine blk_drewN ?_ _ | refine blk_drew ?_ | refine blk_alloc ?_ _));refine blk_far ?_ NB723_726.out _;(with_reducible repeat (first | refine blk_drewN ?_ _ | refine blk_drew ?_ | refine blk_alloc ?_ _));exact BK723.out) k_ hk,Kd.freshB (g:=gb726) (o:=.cells #[.int .i64 ((rd_T23 t733 x9_1).f0),.int .i64 ((rd_T23 t733 x9_1).f1)] 23 (0,0)) (by (with_reducible repeat (first | refine blk_drewN ?_ _ | refine blk_drew ?_ | refine blk_alloc ?_ _));refine blk_put (cs:=#[.int .i64 ((rd_T23 t733 x9_1).f0),.int .i64 t725]) ?_ 1 _ rfl;(with_reducible repeat (first | refine blk_drewN ?_ _ | refine blk_drew ?_ | refine blk_alloc ?_ _));refine blk_put (cs:=#[.int .i64 t724,.int .i64 t725]) ?_ 0 _ rfl;(with_reducible repeat (first | refine blk_drewN ?_ _ | refine blk_drew ?_ | refine blk_alloc ?_ _));exact BK726.out) k_ hk⟩));(case aO=>exact (by (with_reducible repeat (first | apply Kd.R_alloc | apply Kd.R_drewN | apply Kd.R_drew));exact Kd.R_mono (Kd.R_far (p:=⟨gb726,1,none⟩) (Kd.R_far (p:=⟨gb726,0,none⟩) (Kd.R_mono HO_8.out (fun k_ hk=>(⟨hk,hk.1.2⟩:_ ∧ k_ ≠ gb726))) (fun _ hk=>hk.2) (.int .i64 ((rd_T23 t733 x9_1).f0))) (fun _ hk=>hk.2) (.int .i64 ((rd_T23 t733 x9_1).f1))) (fun _ hk=>⟨hk.1.2,⟨hk.1.1.1,hk.1.1.2⟩⟩)));(case aS=>exact (below_size (bl HB)));(case aL=>have:=LMc31.out;omega);intro v738 w36 ho hb hg hat;rw [← Ny737.out] at ho;have HO739:=A_ ho;replace BK723:=A_ (blk_grown (g:=gb723) (o:=.cells #[.int .i64 t721,.int .i64 t722] 23 (0,0)) (by (with_reducible repeat (first | refine blk_drewN ?_ _ | refine blk_drew ?_ | refine blk_alloc ?_ _));refine blk_far ?_ NB723_726.out _;(with_reducible repeat (first | refine blk_drewN ?_ _ | refine blk_drew ?_ | refine blk_alloc ?_ _));refine blk_far ?_ NB723_726.out _;(with_reducible repeat (first | refine blk_drewN ?_ _ | refine blk_drew ?_ | refine blk_alloc ?_ _));exact BK723.out) hg (Kd.R_away HO_8.out (fun _ hk=>hk.1.1)));replace BK726:=A_ (blk_grown (g:=gb726) (o:=.cells #[.int .i64 ((rd_T23 t733 x9_1).f0),.int .i64 ((rd_T23 t733 x9_1).f1)] 23 (0,0)) (by (with_reducible repeat (first | refine blk_drewN ?_ _ | refine blk_drew ?_ | refine blk_alloc ?_ _));refine blk_put (cs:=#[.int .i64 ((rd_T23 t733 x9_1).f0),.int .i64 t725]) ?_ 1 _ rfl;(with_reducible repeat (first | refine blk_drewN ?_ _ | refine blk_drew ?_ | refine blk_alloc ?_ _));refine blk_put (cs:=#[.int .i64 t724,.int .i64 t725]) ?_ 0 _ rfl;(with_reducible repeat (first | refine blk_drewN ?_ _ | refine blk_drew ?_ | refine blk_alloc ?_ _));exact BK726.out) hg (Kd.R_away HO_8.out (fun _ hk=>hk.1.2)));replace HO735:=A_ (Kd.R_after (ok:=(fun k_=>k_ ≠ gb723 ∧ k_ ≠ gb726)) (by (with_reducible repeat (first | apply Kd.R_alloc | apply Kd.R_drewN | apply Kd.R_drew));exact Kd.R_mono (Kd.R_far (p:=⟨gb726,1,none⟩) (Kd.R_far (p:=⟨gb726,0,none⟩) (Kd.R_mono HO735.out (fun k_ hk=>(⟨hk,hk.2⟩:_ ∧ k_ ≠ gb726))) (fun _ hk=>hk.2) (.int .i64 ((rd_T23 t733 x9_1).f0))) (fun _ hk=>hk.2) (.int .i64 ((rd_T23 t733 x9_1).f1))) (fun _ hk=>⟨⟨hk.1.1.2,hk.1.2⟩,hk.1.1.1.2⟩)) hg hat);replace HB:=A_ hb;clear HO_8;clear ho hb hg hat))
      go_roundg kj8
      case measure=>have:=HK1.out;have:=HJ8.out;omega
      case rel=>exact ⟨(y737),(wrap64 (x9_1 + 1)),(by first | rfl | (simp;done) | (simp [*];done)),H',⟨by have:=HK1.out;have:=HJ8.out;omega⟩,⟨by (with_reducible repeat (first | apply Kd.R_alloc | apply Kd.R_drewN | apply Kd.R_drew));exact Kd.R_mono HO739.out (fun _ hk=>trivial)⟩,⟨bl HB⟩⟩
     rw [if_neg c27] at H
     have c27b0:(a0 == 1) = false:=beq_eq_false_iff_ne.mpr c27
     have c27b1:(a0 != 1) = true:=bne_iff_ne.mpr c27
     by_cases c37:a0 = 2
     ·rw [if_pos c37] at H
      have c37b0:(a0 == 2) = true:=beq_iff_eq.mpr c37
      have c37b1:(a0 != 2) = false:=bne_eq_false_iff_eq.mpr c37
      clear c37
      replace H:=Option.bind_eq_some_iff.mp H
      obtain ⟨t740,A380,H⟩:=H
      replace H:(if 0 ≤ x9_1 then (if x9_1 < (t740.length:Int) then ((numnahref07_Sub.f kj8 t721 t722 ((rd_T23 t740 x9_1).f0) ((rd_T23 t740 x9_1).f1)).bind fun bt744=>(if x8_1.length < 8796093022208 then (numnahref07_Award.l0 kj8 a0 l1 a2 t719 (x8_1 ++ [(⟨bt744.1,bt744.2⟩:S23)]) (wrap64 (x9_1 + 1))) else (none))) else (none)) else (none)) = some r:=H
      have A38:=A_ A380
      clear A380
      replace H:=gd H
      obtain ⟨c39,H⟩:=H
      have c39b0:=decide_eq_true c39
      clear c39
      replace H:=gd H
      obtain ⟨c40,H⟩:=H
      have c40b0:=decide_eq_true c40
      clear c40
      replace H:=Option.bind_eq_some_iff.mp H
      obtain ⟨⟨t744,t745⟩,A410,H⟩:=H
      dsimp only at H
      have A41:=A_ A410
      clear A410
      replace H:=gd H
      obtain ⟨c42,H⟩:=H
      have LMc42:=A_ c42
      clear c42
      obtain ⟨y746,hy746⟩:∃ y_:List (S23),y_ = (x8_1 ++ [(⟨t744,t745⟩:S23)]):=⟨_,rfl⟩
      rw [← hy746] at H
      have Ny746:=A_ hy746
      clear hy746
      have H':=A_ H
      clear H
      try go_wp2
      replace HO_8:=rD HO_8
      replace BK723:=kD BK723
      replace BK726:=kD BK726
      replace HB:=bD HB
      refine st 11 (fun w'=>w'.cell? ⟨gb723,0,none⟩ = some (.int .i64 t721) ∧ w'.cell? ⟨gb723,1,none⟩ = some (.int .i64 t722)) [] numnahref07_Award.tab13 numnahref07_Award.bits13 (fun hHeld HT_ HW_=>?_)
      generalize wc.drew = w43 at HO_8 BK723 BK726 HB hHeld ⊢
      refine pq 1 54 2 HT_ ?_
      refine pq 2 55 6 HT_ ?_
      refine pq 3 56 14 HT_ ?_
      refine pq 4 57 30 HT_ ?_
      refine pq 6 59 94 HT_ ?_
      refine tq 0 53 95 HT_ HW_ hHeld ?_
      refine oq 5 58 127 HT_ (fun K hK=>?_)
      refine gq Try.func75 #[.slice (some ad720) l1.length c1,.int .i64 (wrap64 (t719 - a2))] ?_
      with_reducible refine (numnahref07_equal.calls kj8 _ _ l1 (wrap64 (t719 - a2)) t740 _ ?side1 ?side2 A38.out).mono ?_
      (case side1=>exact cB HR1 HB)
      (case side2=>exact HC1.out)
      rintro e w44 ⟨v741,rfl,ho0,hb⟩
      refine ⟨_,rfl,?_⟩
      have HO742:=A_ (Kd.R_lower (Kd.R_newB (Kd.R_newB (Kd.R_new' ho0 (Kd.R_lt (rs HO_8))) (g:=gb723) (o:=.cells #[.int .i64 t721,.int .i64 t722] 23 (0,0)) (kb BK723)) (g:=gb726) (o:=.cells #[.int .i64 t724,.int .i64 t725] 23 (0,0)) (kb BK726)) (below_size (bl HB)))
      replace HO_8:=A_ (Kd.R_elder' (rs HO_8) (Kd.R_base ho0) hb)
      replace BK723:=kB BK723 hb
      replace BK726:=kB BK726 hb
      replace HB:=bB HB hb
      (try clear hb)
      obtain ⟨Ao45,co45,eo45⟩:=Kd.R_slice HO742.out
      (first | subst eo45 | (injection eo45 with f1_ f2_ f3_;have f4_:=f1_.symm;have f5_:=f3_.symm;clear f1_ f2_ f3_;subst f4_;subst f5_))
      have p743:0 ≤ (x9_1:Int):=of_decide_eq_true (by first | (with_reducible assumption) | assumption)
      have q743:x9_1 < (t740.length:Int):=of_decide_eq_true (by first | (with_reducible assumption) | assumption)
      obtain ⟨ad743,e743,hx743_0,hx743_1⟩:=at_T23 (Kd.R_reads' HO742.out).2.2 x9_1 p743 q743
      cases e743
      replace p743:=eq_true p743
      replace q743:=eq_true q743
      refine hz hK (fun hHeld=>?_)
      clear hK K
      refine nq 58 ?_
      refine pq 7 60 255 HT_ ?_
      refine oq 8 61 511 HT_ (fun K hK=>?_)
      refine value_ (w1:=?_) (v:=?_) (by rfl) rfl ?_ ?_
      rotate_left 2
      ·go_simp
       constructor
       ·rfl
       rfl
      refine hK.out _ _ hHeld (fun hHeld=>?_)
      clear hK K
      refine nq 61 ?_
      refine oq 9 62 1023 HT_ (fun K hK=>?_)
      refine gq Try.func31 #[.agg #[.int .i64 t721,.int .i64 t722],.agg #[.int .i64 ((rd_T23 t740 x9_1).f0),.int .i64 ((rd_T23 t740 x9_1).f1)]] ?_
      with_reducible refine (numnahref07_Sub.calls kj8 t721 t722 ((rd_T23 t740 x9_1).f0) ((rd_T23 t740 x9_1).f1) t744 t745 _ A41.out).mono ?_
      rintro e w46 ⟨rfl,hb⟩
      refine ⟨_,rfl,?_⟩
      replace HO_8:=rB HO_8 hb
      replace HO742:=rB HO742 hb
      replace BK723:=kB BK723 hb
      replace BK726:=kB BK726 hb
      replace HB:=bB HB hb
      (try clear hb)
      refine hz hK (fun hHeld=>?_)
      clear hK K
      refine nq 62 ?_
      refine one_ (i:=10) (N:=none) (ba 11 2047) rfl rfl (one_of HT_.out (by kernel_rfl)) (by decide) (fun K hK=>?_)
      have hs47:w46.cell? ⟨gb726,0,none⟩ = some (.int .i64 t724):=cz BK726 0
      have hfs47:=blk_frozen BK726.out 0
      have hns47_0:=NB723_726.out
      have hms47_0:=NB726_723.out
      have hs48:w46.cell? ⟨gb726,1,none⟩ = some (.int .i64 t725):=cz BK726 1
      have hfs48:=blk_frozen BK726.out 1
      have hns48_0:=NB723_726.out
      have hms48_0:=NB726_723.out
      refine skip_ (w1:=?_) (by rfl) rfl ?_ ?_
      rotate_left
      ·go_simp
       rfl
      refine hK.out _ _ ⟨((cell_far (p:=⟨gb726,_,none⟩) NB723_726.out _).trans (((cell_far (p:=⟨gb726,_,none⟩) NB723_726.out _).trans (hHeld.1)))),((cell_far (p:=⟨gb726,_,none⟩) NB723_726.out _).trans (((cell_far (p:=⟨gb726,_,none⟩) NB723_726.out _).trans (hHeld.2))))⟩ (fun hHeld=>?_)
      clear hK K
      refine done_ (done_of HT_.out (by kernel_rfl)) ?_
      have hnb49:=NB726_723.out
      have hnc49:=NB723_726.out
      have hcz50_0:w46.cell? ⟨gb726,0,none⟩ = some (.int .i64 t724):=cz BK726 0
      have hcz50_1:w46.cell? ⟨gb726,1,none⟩ = some (.int .i64 t725):=cz BK726 1
      have hfz50_0:=blk_frozen BK726.out 0
      have hfz50_1:=blk_frozen BK726.out 1
      try go_wp2_with (first | ((with_reducible refine gate_builtin (b:=.append) (xs:=#[.tmp 110,.tmp 112]) rfl ?_);at_builtin;refine Kd.R_append k23 (w0:=w) w.heap.size rfl (.tmp 110) (.tmp 112) 35 23 (.agg #[(.int .i64 0),(.int .i64 0)]) 16 rfl Try.underlying35 info23 rfl (by decide) (by omega) u8 x8_1 (⟨t744,t745⟩:S23) [.int .i64 t744,.int .i64 t745] (fun k_=>some k_ ≠ (.slice (some ad743) t740.length co45:Value).ownBlock ∧ k_ ≠ gb723 ∧ k_ ≠ gb726) (fun _=>False) rfl (by first | (go_simp;done) | (go_simp;rfl)) ?aP (fun _ hk=>hk.elim) ?aF ?aO ?aB ?aS ?aL ?_;(case aP=>exact k23_mkM _ _ _ (⟨t744,t745⟩:S23));(case aB=>exact (bl HB));(case aF=>exact (fun k_ hk=>⟨Kd.fresh' (Kd.R_lt (by (with_reducible repeat (first | apply Kd.R_alloc | apply Kd.R_drewN | apply Kd.R_drew));exact (Kd.R_mono (Kd.R_far (p:=⟨gb726,1,none⟩) (Kd.R_far (p:=⟨gb726,0,none⟩) (Kd.R_mono HO742.out (fun k_ hk=>(⟨hk,hk.2⟩:_ ∧ k_ ≠ gb726))) (fun _ hk=>hk.2) (.int .i64 t744)) (fun _ hk=>hk.2) (.int .i64 t745)) (fun _ h_=>h_.1)))) k_ hk,Kd.freshB (g:=gb723) (o:=.cells #[.int .i64 t721,.int .i64 t722] 23 (0,0)) (by (with_reducible repeat (first | refine blk_drewN ?_ _ | refine blk_drew ?_ | refine blk_alloc ?_ _));refine blk_far ?_ NB723_726.out _;(with_reducible repeat (first | refine blk_drewN ?_ _ | refine blk_drew ?_ | refine blk_alloc ?_ _));refine blk_far ?_ NB723_726.out _;(with_reducible repeat (first | refine blk_drewN ?_ _ | refine blk_drew ?_ | refine blk_alloc ?_ _));exact BK723.out) k_ hk,Kd.freshB (g:=gb726) (o:=.cells #[.int .i64 t744,.int .i64 t745] 23 (0,0)) (by (with_reducible repeat (first | refine blk_drewN ?_ _ | refine blk_drew ?_ | refine blk_alloc ?_ _));refine blk_put (cs:=#[.int .i64 t744,.int .i64 t725]) ?_ 1 _ rfl;(with_reducible repeat (first | refine blk_drewN ?_ _ | refine blk_drew ?_ | refine blk_alloc ?_ _));refine blk_put (cs:=#[.int .i64 t724,.int .i64 t725]) ?_ 0 _ rfl;(with_reducible repeat (first | refine blk_drewN ?_ _ | refine blk_drew ?_ | refine blk_alloc ?_ _));exact BK726.out) k_ hk⟩));(case aO=>exact (by (with_reducible repeat (first | apply Kd.R_alloc | apply Kd.R_drewN | apply Kd.R_drew));exact Kd.R_mono (Kd.R_far (p:=⟨gb726,1,none⟩) (Kd.R_far (p:=⟨gb726,0,none⟩) (Kd.R_mono HO_8.out (fun k_ hk=>(⟨hk,hk.1.2⟩:_ ∧ k_ ≠ gb726))) (fun _ hk=>hk.2) (.int .i64 t744)) (fun _ hk=>hk.2) (.int .i64 t745)) (fun _ hk=>⟨hk.1.2,⟨hk.1.1.1,hk.1.1.2⟩⟩)));(case aS=>exact (below_size (bl HB)));(case aL=>have:=LMc42.out;omega);intro v747 w51 ho hb hg hat;rw [← Ny746.out] at ho;have HO748:=A_ ho;replace BK723:=A_ (blk_grown (g:=gb723) (o:=.cells #[.int .i64 t721,.int .i64 t722] 23 (0,0)) (by (with_reducible repeat (first | refine blk_drewN ?_ _ | refine blk_drew ?_ | refine blk_alloc ?_ _));refine blk_far ?_ NB723_726.out _;(with_reducible repeat (first | refine blk_drewN ?_ _ | refine blk_drew ?_ | refine blk_alloc ?_ _));refine blk_far ?_ NB723_726.out _;(with_reducible repeat (first | refine blk_drewN ?_ _ | refine blk_drew ?_ | refine blk_alloc ?_ _));exact BK723.out) hg (Kd.R_away HO_8.out (fun _ hk=>hk.1.1)));replace BK726:=A_ (blk_grown (g:=gb726) (o:=.cells #[.int .i64 t744,.int .i64 t745] 23 (0,0)) (by (with_reducible repeat (first | refine blk_drewN ?_ _ | refine blk_drew ?_ | refine blk_alloc ?_ _));refine blk_put (cs:=#[.int .i64 t744,.int .i64 t725]) ?_ 1 _ rfl;(with_reducible repeat (first | refine blk_drewN ?_ _ | refine blk_drew ?_ | refine blk_alloc ?_ _));refine blk_put (cs:=#[.int .i64 t724,.int .i64 t725]) ?_ 0 _ rfl;(with_reducible repeat (first | refine blk_drewN ?_ _ | refine blk_drew ?_ | refine blk_alloc ?_ _));exact BK726.out) hg (Kd.R_away HO_8.out (fun _ hk=>hk.1.2)));replace HO742:=A_ (Kd.R_after (ok:=(fun k_=>k_ ≠ gb723 ∧ k_ ≠ gb726)) (by (with_reducible repeat (first | apply Kd.R_alloc | apply Kd.R_drewN | apply Kd.R_drew));exact Kd.R_mono (Kd.R_far (p:=⟨gb726,1,none⟩) (Kd.R_far (p:=⟨gb726,0,none⟩) (Kd.R_mono HO742.out (fun k_ hk=>(⟨hk,hk.2⟩:_ ∧ k_ ≠ gb726))) (fun _ hk=>hk.2) (.int .i64 t744)) (fun _ hk=>hk.2) (.int .i64 t745)) (fun _ hk=>⟨⟨hk.1.1.2,hk.1.2⟩,hk.1.1.1.2⟩)) hg hat);replace HB:=A_ hb;clear HO_8;clear ho hb hg hat))
      go_roundg kj8
      case measure=>have:=HK1.out;have:=HJ8.out;omega
      case rel=>exact ⟨(y746),(wrap64 (x9_1 + 1)),(by first | rfl | (simp;done) | (simp [*];done)),H',⟨by have:=HK1.out;have:=HJ8.out;omega⟩,⟨by (with_reducible repeat (first | apply Kd.R_alloc | apply Kd.R_drewN | apply Kd.R_drew));exact Kd.R_mono HO748.out (fun _ hk=>trivial)⟩,⟨bl HB⟩⟩
     rw [if_neg c37] at H
     have c37b0:(a0 == 2) = false:=beq_eq_false_iff_ne.mpr c37
     have c37b1:(a0 != 2) = true:=bne_iff_ne.mpr c37
     have HC52:=A_ H
     clear H
     go_upto_region 14 with (fail)
     go_cut [63] (fun v63 wc=>∃ (kq:Nat) (x63_51:Bool),v63 = .bool x63_51 ∧ Aside0 (numnahref07_Award.j2 kq a0 l1 a2 t719 x8_1 x9_1 x63_51 t721 t722 t724 t725 = some r) ∧ Aside0 (kq ≤ kj8) ∧ Aside0 (Kd.R k23 23 wc w.heap.size (fun k_=>k_ ≠ gb723 ∧ k_ ≠ gb726) u8 x8_1) ∧ Aside0 (wc.heap[gb723]? = some (.cells #[.int .i64 t721,.int .i64 t722] 23 (0,0))) ∧ Aside0 (wc.heap[gb726]? = some (.cells #[.int .i64 t724,.int .i64 t725] 23 (0,0))) ∧ Aside0 (Below w.heap.size w wc))
     case first =>
      have H:=HC52.out
      clear HC52
      by_cases c53:a0 ≥ 3
      case neg =>
       rw [if_neg c53] at H
       have c53b0:=decide_eq_false c53
       clear c53
       (first | rw [c53b0] | (simp only [i64_w,i32_w];rw [c53b0]) | skip)
       have H':=A_ H
       clear H
       go_wp2
       go_meet
       case rel=>exact ⟨_,(false),(by first | rfl | (simp;done) | (simp [*];done)),H',⟨by have:=HK1.out;have:=HJ8.out;first | omega | exact Nat.le_refl _⟩,⟨by (with_reducible repeat (first | apply Kd.R_alloc | apply Kd.R_drewN | apply Kd.R_drew));exact HO_8.out⟩,⟨by (with_reducible repeat (first | refine blk_drewN ?_ _ | refine blk_drew ?_ | refine blk_alloc ?_ _));exact BK723.out⟩,⟨by (with_reducible repeat (first | refine blk_drewN ?_ _ | refine blk_drew ?_ | refine blk_alloc ?_ _));exact BK726.out⟩,⟨bl HB⟩⟩
      rw [if_pos c53] at H
      have c53b0:=decide_eq_true c53
      clear c53
      (first | rw [c53b0] | (simp only [i64_w,i32_w];rw [c53b0]) | skip)
      have H':=A_ H
      clear H
      go_wp2
      go_meet
      case rel=>exact ⟨_,(decide ((wrap64 (2 * a2)) ≤ t719)),(by first | rfl | (simp;done) | (simp [*];done)),H',⟨by have:=HK1.out;have:=HJ8.out;first | omega | exact Nat.le_refl _⟩,⟨by (with_reducible repeat (first | apply Kd.R_alloc | apply Kd.R_drewN | apply Kd.R_drew));exact HO_8.out⟩,⟨by (with_reducible repeat (first | refine blk_drewN ?_ _ | refine blk_drew ?_ | refine blk_alloc ?_ _));exact BK723.out⟩,⟨by (with_reducible repeat (first | refine blk_drewN ?_ _ | refine blk_drew ?_ | refine blk_alloc ?_ _));exact BK726.out⟩,⟨bl HB⟩⟩
     case rest =>
      clear HC52
      obtain ⟨kq,x63_51,rfl,HA,HJ51,HO_8,BK723,BK726,HB⟩:=hcut
      cases kq with
      | zero=>exact absurd HA.out (by simp [numnahref07_Award.j2])
      | succ kj51 =>
       have H:=HA.out
       clear HA
       simp only [numnahref07_Award.j2] at H
       by_cases c54:x63_51 = true
       ·subst c54
        rw [if_pos rfl] at H
        replace H:=Option.bind_eq_some_iff.mp H
        obtain ⟨t749,A550,H⟩:=H
        replace H:(if 0 ≤ x9_1 then (if x9_1 < (t749.length:Int) then ((numnahref07_Half.f kj51 ((rd_T23 t749 x9_1).f0) ((rd_T23 t749 x9_1).f1)).bind fun bt753=>(if x8_1.length < 8796093022208 then (numnahref07_Award.l0 kj51 a0 l1 a2 t719 (x8_1 ++ [(⟨bt753.1,bt753.2⟩:S23)]) (wrap64 (x9_1 + 1))) else (none))) else (none)) else (none)) = some r:=H
        have A55:=A_ A550
        clear A550
        replace H:=gd H
        obtain ⟨c56,H⟩:=H
        have c56b0:=decide_eq_true c56
        clear c56
        replace H:=gd H
        obtain ⟨c57,H⟩:=H
        have c57b0:=decide_eq_true c57
        clear c57
        replace H:=Option.bind_eq_some_iff.mp H
        obtain ⟨⟨t753,t754⟩,A580,H⟩:=H
        dsimp only at H
        have A58:=A_ A580
        clear A580
        replace H:=gd H
        obtain ⟨c59,H⟩:=H
        have LMc59:=A_ c59
        clear c59
        obtain ⟨y755,hy755⟩:∃ y_:List (S23),y_ = (x8_1 ++ [(⟨t753,t754⟩:S23)]):=⟨_,rfl⟩
        rw [← hy755] at H
        have Ny755:=A_ hy755
        clear hy755
        have H':=A_ H
        clear H
        go_wp2_with (first | ((with_reducible refine gate_callee (f:=75) rfl ?_);refine gL (some 75) Try.func75 #[.slice (some ad720) l1.length c1,.int .i64 (wrap64 (2 * a2))] ?_;(with_reducible refine (numnahref07_equal.calls kj51 _ _ l1 (wrap64 (2 * a2)) t749 _ ?side1 ?side2 A55.out).mono ?_);(case side1=>exact cB HR1 HB);(case side2=>exact HC1.out);rintro e w60 ⟨v750,rfl,ho0,hb⟩;refine ⟨_,rfl,?_⟩;have HO751:=A_ (Kd.R_lower (Kd.R_newB (Kd.R_newB (Kd.R_new' ho0 (Kd.R_lt (rs HO_8))) (g:=gb723) (o:=.cells #[.int .i64 t721,.int .i64 t722] 23 (0,0)) (kb BK723)) (g:=gb726) (o:=.cells #[.int .i64 t724,.int .i64 t725] 23 (0,0)) (kb BK726)) (below_size (bl HB)));replace HO_8:=A_ (Kd.R_elder' (rs HO_8) (Kd.R_base ho0) hb);replace BK723:=kB BK723 hb;replace BK726:=kB BK726 hb;replace HB:=bB HB hb;(try clear hb);obtain ⟨Ao61,co61,eo61⟩:=Kd.R_slice HO751.out;subst eo61;have p752:0 ≤ (x9_1:Int):=of_decide_eq_true (by first | (with_reducible assumption) | assumption);have q752:x9_1 < (t749.length:Int):=of_decide_eq_true (by first | (with_reducible assumption) | assumption);obtain ⟨ad752,e752,hx752_0,hx752_1⟩:=at_T23 (Kd.R_reads' HO751.out).2.2 x9_1 p752 q752;cases e752;replace p752:=eq_true p752;replace q752:=eq_true q752) | ((with_reducible refine gate_callee (f:=67) rfl ?_);refine gL (some 79) Try.func67 #[.agg #[.int .i64 ((rd_T23 t749 x9_1).f0),.int .i64 ((rd_T23 t749 x9_1).f1)]] ?_;(with_reducible refine (numnahref07_Half.calls kj51 ((rd_T23 t749 x9_1).f0) ((rd_T23 t749 x9_1).f1) t753 t754 _ A58.out).mono ?_);rintro e w62 ⟨rfl,hb⟩;refine ⟨_,rfl,?_⟩;replace HO_8:=rB HO_8 hb;replace HO751:=rB HO751 hb;replace BK723:=kB BK723 hb;replace BK726:=kB BK726 hb;replace HB:=bB HB hb;(try clear hb);have hnb63:=NB726_723.out;have hnc63:=NB723_726.out;have hcz64_0:w62.cell? ⟨gb726,0,none⟩ = some (.int .i64 t724):=cz BK726 0;have hcz64_1:w62.cell? ⟨gb726,1,none⟩ = some (.int .i64 t725):=cz BK726 1;have hfz64_0:=blk_frozen BK726.out 0;have hfz64_1:=blk_frozen BK726.out 1) | ((with_reducible refine gate_builtin (b:=.append) (xs:=#[.tmp 110,.tmp 112]) rfl ?_);at_builtin;refine Kd.R_append k23 (w0:=w) w.heap.size rfl (.tmp 110) (.tmp 112) 35 23 (.agg #[(.int .i64 0),(.int .i64 0)]) 16 rfl Try.underlying35 info23 rfl (by decide) (by omega) u8 x8_1 (⟨t753,t754⟩:S23) [.int .i64 t753,.int .i64 t754] (fun k_=>some k_ ≠ (.slice (some ad752) t749.length co61:Value).ownBlock ∧ k_ ≠ gb723 ∧ k_ ≠ gb726) (fun _=>False) rfl (by first | (go_simp;done) | (go_simp;rfl)) ?aP (fun _ hk=>hk.elim) ?aF ?aO ?aB ?aS ?aL ?_;(case aP=>exact k23_mkM _ _ _ (⟨t753,t754⟩:S23));(case aB=>exact (bl HB));(case aF=>exact (fun k_ hk=>⟨Kd.fresh' (Kd.R_lt (by (with_reducible repeat (first | apply Kd.R_alloc | apply Kd.R_drewN | apply Kd.R_drew));exact (Kd.R_mono (Kd.R_far (p:=⟨gb726,1,none⟩) (Kd.R_far (p:=⟨gb726,0,none⟩) (Kd.R_mono HO751.out (fun k_ hk=>(⟨hk,hk.2⟩:_ ∧ k_ ≠ gb726))) (fun _ hk=>hk.2) (.int .i64 t753)) (fun _ hk=>hk.2) (.int .i64 t754)) (fun _ h_=>h_.1)))) k_ hk,Kd.freshB (g:=gb723) (o:=.cells #[.int .i64 t721,.int .i64 t722] 23 (0,0)) (by (with_reducible repeat (first | refine blk_drewN ?_ _ | refine blk_drew ?_ | refine blk_alloc ?_ _));refine blk_far ?_ NB723_726.out _;(with_reducible repeat (first | refine blk_drewN ?_ _ | refine blk_drew ?_ | refine blk_alloc ?_ _));refine blk_far ?_ NB723_726.out _;(with_reducible repeat (first | refine blk_drewN ?_ _ | refine blk_drew ?_ | refine blk_alloc ?_ _));exact BK723.out) k_ hk,Kd.freshB (g:=gb726) (o:=.cells #[.int .i64 t753,.int .i64 t754] 23 (0,0)) (by (with_reducible repeat (first | refine blk_drewN ?_ _ | refine blk_drew ?_ | refine blk_alloc ?_ _));refine blk_put (cs:=#[.int .i64 t753,.int .i64 t725]) ?_ 1 _ rfl;(with_reducible repeat (first | refine blk_drewN ?_ _ | refine blk_drew ?_ | refine blk_alloc ?_ _));refine blk_put (cs:=#[.int .i64 t724,.int .i64 t725]) ?_ 0 _ rfl;(with_reducible repeat (first | refine blk_drewN ?_ _ | refine blk_drew ?_ | refine blk_alloc ?_ _));exact BK726.out) k_ hk⟩));(case aO=>exact (by (with_reducible repeat (first | apply Kd.R_alloc | apply Kd.R_drewN | apply Kd.R_drew));exact Kd.R_mono (Kd.R_far (p:=⟨gb726,1,none⟩) (Kd.R_far (p:=⟨gb726,0,none⟩) (Kd.R_mono HO_8.out (fun k_ hk=>(⟨hk,hk.1.2⟩:_ ∧ k_ ≠ gb726))) (fun _ hk=>hk.2) (.int .i64 t753)) (fun _ hk=>hk.2) (.int .i64 t754)) (fun _ hk=>⟨hk.1.2,⟨hk.1.1.1,hk.1.1.2⟩⟩)));(case aS=>exact (below_size (bl HB)));(case aL=>have:=LMc59.out;omega);intro v756 w65 ho hb hg hat;rw [← Ny755.out] at ho;have HO757:=A_ ho;replace BK723:=A_ (blk_grown (g:=gb723) (o:=.cells #[.int .i64 t721,.int .i64 t722] 23 (0,0)) (by (with_reducible repeat (first | refine blk_drewN ?_ _ | refine blk_drew ?_ | refine blk_alloc ?_ _));refine blk_far ?_ NB723_726.out _;(with_reducible repeat (first | refine blk_drewN ?_ _ | refine blk_drew ?_ | refine blk_alloc ?_ _));refine blk_far ?_ NB723_726.out _;(with_reducible repeat (first | refine blk_drewN ?_ _ | refine blk_drew ?_ | refine blk_alloc ?_ _));exact BK723.out) hg (Kd.R_away HO_8.out (fun _ hk=>hk.1.1)));replace BK726:=A_ (blk_grown (g:=gb726) (o:=.cells #[.int .i64 t753,.int .i64 t754] 23 (0,0)) (by (with_reducible repeat (first | refine blk_drewN ?_ _ | refine blk_drew ?_ | refine blk_alloc ?_ _));refine blk_put (cs:=#[.int .i64 t753,.int .i64 t725]) ?_ 1 _ rfl;(with_reducible repeat (first | refine blk_drewN ?_ _ | refine blk_drew ?_ | refine blk_alloc ?_ _));refine blk_put (cs:=#[.int .i64 t724,.int .i64 t725]) ?_ 0 _ rfl;(with_reducible repeat (first | refine blk_drewN ?_ _ | refine blk_drew ?_ | refine blk_alloc ?_ _));exact BK726.out) hg (Kd.R_away HO_8.out (fun _ hk=>hk.1.2)));replace HO751:=A_ (Kd.R_after (ok:=(fun k_=>k_ ≠ gb723 ∧ k_ ≠ gb726)) (by (with_reducible repeat (first | apply Kd.R_alloc | apply Kd.R_drewN | apply Kd.R_drew));exact Kd.R_mono (Kd.R_far (p:=⟨gb726,1,none⟩) (Kd.R_far (p:=⟨gb726,0,none⟩) (Kd.R_mono HO751.out (fun k_ hk=>(⟨hk,hk.2⟩:_ ∧ k_ ≠ gb726))) (fun _ hk=>hk.2) (.int .i64 t753)) (fun _ hk=>hk.2) (.int .i64 t754)) (fun _ hk=>⟨⟨hk.1.1.2,hk.1.2⟩,hk.1.1.1.2⟩)) hg hat);replace HB:=A_ hb;clear HO_8;clear ho hb hg hat))
        go_roundg kj51
        case measure=>have:=HK1.out;have:=HJ8.out;have:=HJ51.out;omega
        case rel=>exact ⟨(y755),(wrap64 (x9_1 + 1)),(by first | rfl | (simp;done) | (simp [*];done)),H',⟨by have:=HK1.out;have:=HJ8.out;have:=HJ51.out;omega⟩,⟨by (with_reducible repeat (first | apply Kd.R_alloc | apply Kd.R_drewN | apply Kd.R_drew));exact Kd.R_mono HO757.out (fun _ hk=>trivial)⟩,⟨bl HB⟩⟩
       replace c54:=Bool.eq_false_iff.mpr c54
       subst c54
       rw [if_neg (show ¬ (false = true) by decide)] at H
       by_cases c66:a0 = 3
       ·rw [if_pos c66] at H
        have c66b0:(a0 == 3) = true:=beq_iff_eq.mpr c66
        have c66b1:(a0 != 3) = false:=bne_eq_false_iff_eq.mpr c66
        clear c66
        replace H:=Option.bind_eq_some_iff.mp H
        obtain ⟨t758,A670,H⟩:=H
        replace H:(if 0 ≤ x9_1 then (if x9_1 < (t758.length:Int) then ((numnahref07_Half.f kj51 ((rd_T23 t758 x9_1).f0) ((rd_T23 t758 x9_1).f1)).bind fun bt762=>((numnahref07_Sub.f kj51 t721 t722 bt762.1 bt762.2).bind fun bt764=>(if x8_1.length < 8796093022208 then (numnahref07_Award.l0 kj51 a0 l1 a2 t719 (x8_1 ++ [(⟨bt764.1,bt764.2⟩:S23)]) (wrap64 (x9_1 + 1))) else (none)))) else (none)) else (none)) = some r:=H
        have A67:=A_ A670
        clear A670
        replace H:=gd H
        obtain ⟨c68,H⟩:=H
        have c68b0:=decide_eq_true c68
        clear c68
        replace H:=gd H
        obtain ⟨c69,H⟩:=H
        have c69b0:=decide_eq_true c69
        clear c69
        replace H:=Option.bind_eq_some_iff.mp H
        obtain ⟨⟨t762,t763⟩,A700,H⟩:=H
        dsimp only at H
        have A70:=A_ A700
        clear A700
        replace H:=Option.bind_eq_some_iff.mp H
        obtain ⟨⟨t764,t765⟩,A710,H⟩:=H
        dsimp only at H
        have A71:=A_ A710
        clear A710
        replace H:=gd H
        obtain ⟨c72,H⟩:=H
        have LMc72:=A_ c72
        clear c72
        obtain ⟨y766,hy766⟩:∃ y_:List (S23),y_ = (x8_1 ++ [(⟨t764,t765⟩:S23)]):=⟨_,rfl⟩
        rw [← hy766] at H
        have Ny766:=A_ hy766
        clear hy766
        have H':=A_ H
        clear H
        try go_wp2
        replace HO_8:=rD HO_8
        replace BK723:=kD BK723
        replace BK726:=kD BK726
        replace HB:=bD HB
        refine st 13 (fun w'=>w'.cell? ⟨gb723,0,none⟩ = some (.int .i64 t721) ∧ w'.cell? ⟨gb723,1,none⟩ = some (.int .i64 t722)) [] numnahref07_Award.tab17 numnahref07_Award.bits17 (fun hHeld HT_ HW_=>?_)
        generalize wc.drew = w73 at HO_8 BK723 BK726 HB hHeld ⊢
        refine pq 1 84 2 HT_ ?_
        refine pq 2 85 6 HT_ ?_
        refine pq 3 86 14 HT_ ?_
        refine pq 4 87 30 HT_ ?_
        refine pq 5 88 62 HT_ ?_
        refine pq 7 90 190 HT_ ?_
        refine tq 0 83 191 HT_ HW_ hHeld ?_
        refine oq 6 89 255 HT_ (fun K hK=>?_)
        refine gq Try.func75 #[.slice (some ad720) l1.length c1,.int .i64 (wrap64 (2 * (wrap64 (t719 - a2))))] ?_
        with_reducible refine (numnahref07_equal.calls kj51 _ _ l1 (wrap64 (2 * (wrap64 (t719 - a2)))) t758 _ ?side1 ?side2 A67.out).mono ?_
        (case side1=>exact cB HR1 HB)
        (case side2=>exact HC1.out)
        rintro e w74 ⟨v759,rfl,ho0,hb⟩
        refine ⟨_,rfl,?_⟩
        have HO760:=A_ (Kd.R_lower (Kd.R_newB (Kd.R_newB (Kd.R_new' ho0 (Kd.R_lt (rs HO_8))) (g:=gb723) (o:=.cells #[.int .i64 t721,.int .i64 t722] 23 (0,0)) (kb BK723)) (g:=gb726) (o:=.cells #[.int .i64 t724,.int .i64 t725] 23 (0,0)) (kb BK726)) (below_size (bl HB)))
        replace HO_8:=A_ (Kd.R_elder' (rs HO_8) (Kd.R_base ho0) hb)
        replace BK723:=kB BK723 hb
        replace BK726:=kB BK726 hb
        replace HB:=bB HB hb
        (try clear hb)
        obtain ⟨Ao75,co75,eo75⟩:=Kd.R_slice HO760.out
        (first | subst eo75 | (injection eo75 with f1_ f2_ f3_;have f4_:=f1_.symm;have f5_:=f3_.symm;clear f1_ f2_ f3_;subst f4_;subst f5_))
        have p761:0 ≤ (x9_1:Int):=of_decide_eq_true (by first | (with_reducible assumption) | assumption)
        have q761:x9_1 < (t758.length:Int):=of_decide_eq_true (by first | (with_reducible assumption) | assumption)
        obtain ⟨ad761,e761,hx761_0,hx761_1⟩:=at_T23 (Kd.R_reads' HO760.out).2.2 x9_1 p761 q761
        cases e761
        replace p761:=eq_true p761
        replace q761:=eq_true q761
        refine hz hK (fun hHeld=>?_)
        clear hK K
        refine nq 89 ?_
        refine pq 8 91 511 HT_ ?_
        refine oq 9 92 1023 HT_ (fun K hK=>?_)
        refine value_ (w1:=?_) (v:=?_) (by rfl) rfl ?_ ?_
        rotate_left 2
        ·go_simp
         constructor
         ·rfl
         rfl
        refine hK.out _ _ hHeld (fun hHeld=>?_)
        clear hK K
        refine nq 92 ?_
        refine oq 10 93 2047 HT_ (fun K hK=>?_)
        refine gq Try.func67 #[.agg #[.int .i64 ((rd_T23 t758 x9_1).f0),.int .i64 ((rd_T23 t758 x9_1).f1)]] ?_
        with_reducible refine (numnahref07_Half.calls kj51 ((rd_T23 t758 x9_1).f0) ((rd_T23 t758 x9_1).f1) t762 t763 _ A70.out).mono ?_
        rintro e w76 ⟨rfl,hb⟩
        refine ⟨_,rfl,?_⟩
        replace HO_8:=rB HO_8 hb
        replace HO760:=rB HO760 hb
        replace BK723:=kB BK723 hb
        replace BK726:=kB BK726 hb
        replace HB:=bB HB hb
        (try clear hb)
        refine hz hK (fun hHeld=>?_)
        clear hK K
        refine nq 93 ?_
        refine oq 11 94 4095 HT_ (fun K hK=>?_)
        refine gq Try.func31 #[.agg #[.int .i64 t721,.int .i64 t722],.agg #[.int .i64 t762,.int .i64 t763]] ?_
        with_reducible refine (numnahref07_Sub.calls kj51 t721 t722 t762 t763 t764 t765 _ A71.out).mono ?_
        rintro e w77 ⟨rfl,hb⟩
        refine ⟨_,rfl,?_⟩
        replace HO_8:=rB HO_8 hb
        replace HO760:=rB HO760 hb
        replace BK723:=kB BK723 hb
        replace BK726:=kB BK726 hb
        replace HB:=bB HB hb
        (try clear hb)
        refine hz hK (fun hHeld=>?_)
        clear hK K
        refine nq 94 ?_
        refine one_ (i:=12) (N:=none) (ba 13 8191) rfl rfl (one_of HT_.out (by kernel_rfl)) (by decide) (fun K hK=>?_)
        have hs78:w77.cell? ⟨gb726,0,none⟩ = some (.int .i64 t724):=cz BK726 0
        have hfs78:=blk_frozen BK726.out 0
        have hns78_0:=NB723_726.out
        have hms78_0:=NB726_723.out
        have hs79:w77.cell? ⟨gb726,1,none⟩ = some (.int .i64 t725):=cz BK726 1
        have hfs79:=blk_frozen BK726.out 1
        have hns79_0:=NB723_726.out
        have hms79_0:=NB726_723.out
        refine skip_ (w1:=?_) (by rfl) rfl ?_ ?_
        rotate_left
        ·go_simp
         rfl
        refine hK.out _ _ ⟨((cell_far (p:=⟨gb726,_,none⟩) NB723_726.out _).trans (((cell_far (p:=⟨gb726,_,none⟩) NB723_726.out _).trans (hHeld.1)))),((cell_far (p:=⟨gb726,_,none⟩) NB723_726.out _).trans (((cell_far (p:=⟨gb726,_,none⟩) NB723_726.out _).trans (hHeld.2))))⟩ (fun hHeld=>?_)
        clear hK K
        refine done_ (done_of HT_.out (by kernel_rfl)) ?_
        have hnb80:=NB726_723.out
        have hnc80:=NB723_726.out
        have hcz81_0:w77.cell? ⟨gb726,0,none⟩ = some (.int .i64 t724):=cz BK726 0
        have hcz81_1:w77.cell? ⟨gb726,1,none⟩ = some (.int .i64 t725):=cz BK726 1
        have hfz81_0:=blk_frozen BK726.out 0
        have hfz81_1:=blk_frozen BK726.out 1
        try go_wp2_with (first | ((with_reducible refine gate_builtin (b:=.append) (xs:=#[.tmp 110,.tmp 112]) rfl ?_);at_builtin;refine Kd.R_append k23 (w0:=w) w.heap.size rfl (.tmp 110) (.tmp 112) 35 23 (.agg #[(.int .i64 0),(.int .i64 0)]) 16 rfl Try.underlying35 info23 rfl (by decide) (by omega) u8 x8_1 (⟨t764,t765⟩:S23) [.int .i64 t764,.int .i64 t765] (fun k_=>some k_ ≠ (.slice (some ad761) t758.length co75:Value).ownBlock ∧ k_ ≠ gb723 ∧ k_ ≠ gb726) (fun _=>False) rfl (by first | (go_simp;done) | (go_simp;rfl)) ?aP (fun _ hk=>hk.elim) ?aF ?aO ?aB ?aS ?aL ?_;(case aP=>exact k23_mkM _ _ _ (⟨t764,t765⟩:S23));(case aB=>exact (bl HB));(case aF=>exact (fun k_ hk=>⟨Kd.fresh' (Kd.R_lt (by (with_reducible repeat (first | apply Kd.R_alloc | apply Kd.R_drewN | apply Kd.R_drew));exact (Kd.R_mono (Kd.R_far (p:=⟨gb726,1,none⟩) (Kd.R_far (p:=⟨gb726,0,none⟩) (Kd.R_mono HO760.out (fun k_ hk=>(⟨hk,hk.2⟩:_ ∧ k_ ≠ gb726))) (fun _ hk=>hk.2) (.int .i64 t764)) (fun _ hk=>hk.2) (.int .i64 t765)) (fun _ h_=>h_.1)))) k_ hk,Kd.freshB (g:=gb723) (o:=.cells #[.int .i64 t721,.int .i64 t722] 23 (0,0)) (by (with_reducible repeat (first | refine blk_drewN ?_ _ | refine blk_drew ?_ | refine blk_alloc ?_ _));refine blk_far ?_ NB723_726.out _;(with_reducible repeat (first | refine blk_drewN ?_ _ | refine blk_drew ?_ | refine blk_alloc ?_ _));refine blk_far ?_ NB723_726.out _;(with_reducible repeat (first | refine blk_drewN ?_ _ | refine blk_drew ?_ | refine blk_alloc ?_ _));exact BK723.out) k_ hk,Kd.freshB (g:=gb726) (o:=.cells #[.int .i64 t764,.int .i64 t765] 23 (0,0)) (by (with_reducible repeat (first | refine blk_drewN ?_ _ | refine blk_drew ?_ | refine blk_alloc ?_ _));refine blk_put (cs:=#[.int .i64 t764,.int .i64 t725]) ?_ 1 _ rfl;(with_reducible repeat (first | refine blk_drewN ?_ _ | refine blk_drew ?_ | refine blk_alloc ?_ _));refine blk_put (cs:=#[.int .i64 t724,.int .i64 t725]) ?_ 0 _ rfl;(with_reducible repeat (first | refine blk_drewN ?_ _ | refine blk_drew ?_ | refine blk_alloc ?_ _));exact BK726.out) k_ hk⟩));(case aO=>exact (by (with_reducible repeat (first | apply Kd.R_alloc | apply Kd.R_drewN | apply Kd.R_drew));exact Kd.R_mono (Kd.R_far (p:=⟨gb726,1,none⟩) (Kd.R_far (p:=⟨gb726,0,none⟩) (Kd.R_mono HO_8.out (fun k_ hk=>(⟨hk,hk.1.2⟩:_ ∧ k_ ≠ gb726))) (fun _ hk=>hk.2) (.int .i64 t764)) (fun _ hk=>hk.2) (.int .i64 t765)) (fun _ hk=>⟨hk.1.2,⟨hk.1.1.1,hk.1.1.2⟩⟩)));(case aS=>exact (below_size (bl HB)));(case aL=>have:=LMc72.out;omega);intro v767 w82 ho hb hg hat;rw [← Ny766.out] at ho;have HO768:=A_ ho;replace BK723:=A_ (blk_grown (g:=gb723) (o:=.cells #[.int .i64 t721,.int .i64 t722] 23 (0,0)) (by (with_reducible repeat (first | refine blk_drewN ?_ _ | refine blk_drew ?_ | refine blk_alloc ?_ _));refine blk_far ?_ NB723_726.out _;(with_reducible repeat (first | refine blk_drewN ?_ _ | refine blk_drew ?_ | refine blk_alloc ?_ _));refine blk_far ?_ NB723_726.out _;(with_reducible repeat (first | refine blk_drewN ?_ _ | refine blk_drew ?_ | refine blk_alloc ?_ _));exact BK723.out) hg (Kd.R_away HO_8.out (fun _ hk=>hk.1.1)));replace BK726:=A_ (blk_grown (g:=gb726) (o:=.cells #[.int .i64 t764,.int .i64 t765] 23 (0,0)) (by (with_reducible repeat (first | refine blk_drewN ?_ _ | refine blk_drew ?_ | refine blk_alloc ?_ _));refine blk_put (cs:=#[.int .i64 t764,.int .i64 t725]) ?_ 1 _ rfl;(with_reducible repeat (first | refine blk_drewN ?_ _ | refine blk_drew ?_ | refine blk_alloc ?_ _));refine blk_put (cs:=#[.int .i64 t724,.int .i64 t725]) ?_ 0 _ rfl;(with_reducible repeat (first | refine blk_drewN ?_ _ | refine blk_drew ?_ | refine blk_alloc ?_ _));exact BK726.out) hg (Kd.R_away HO_8.out (fun _ hk=>hk.1.2)));replace HO760:=A_ (Kd.R_after (ok:=(fun k_=>k_ ≠ gb723 ∧ k_ ≠ gb726)) (by (with_reducible repeat (first | apply Kd.R_alloc | apply Kd.R_drewN | apply Kd.R_drew));exact Kd.R_mono (Kd.R_far (p:=⟨gb726,1,none⟩) (Kd.R_far (p:=⟨gb726,0,none⟩) (Kd.R_mono HO760.out (fun k_ hk=>(⟨hk,hk.2⟩:_ ∧ k_ ≠ gb726))) (fun _ hk=>hk.2) (.int .i64 t764)) (fun _ hk=>hk.2) (.int .i64 t765)) (fun _ hk=>⟨⟨hk.1.1.2,hk.1.2⟩,hk.1.1.1.2⟩)) hg hat);replace HB:=A_ hb;clear HO_8;clear ho hb hg hat))
        go_roundg kj51
        case measure=>have:=HK1.out;have:=HJ8.out;have:=HJ51.out;omega
        case rel=>exact ⟨(y766),(wrap64 (x9_1 + 1)),(by first | rfl | (simp;done) | (simp [*];done)),H',⟨by have:=HK1.out;have:=HJ8.out;have:=HJ51.out;omega⟩,⟨by (with_reducible repeat (first | apply Kd.R_alloc | apply Kd.R_drewN | apply Kd.R_drew));exact Kd.R_mono HO768.out (fun _ hk=>trivial)⟩,⟨bl HB⟩⟩
       rw [if_neg c66] at H
       have c66b0:(a0 == 3) = false:=beq_eq_false_iff_ne.mpr c66
       have c66b1:(a0 != 3) = true:=bne_iff_ne.mpr c66
       by_cases c83:a0 = 4
       case neg =>
        rw [if_neg c83] at H
        have c83b0:(a0 == 4) = false:=beq_eq_false_iff_ne.mpr c83
        have c83b1:(a0 != 4) = true:=bne_iff_ne.mpr c83
        replace H:=gd H
        obtain ⟨c100,H⟩:=H
        have LMc100:=A_ c100
        clear c100
        obtain ⟨y780,hy780⟩:∃ y_:List (S23),y_ = (x8_1 ++ [(⟨t724,t725⟩:S23)]):=⟨_,rfl⟩
        rw [← hy780] at H
        have Ny780:=A_ hy780
        clear hy780
        have H':=A_ H
        clear H
        have hnb101:=NB726_723.out
        have hnc101:=NB723_726.out
        have hcz102_0:wc.cell? ⟨gb726,0,none⟩ = some (.int .i64 t724):=cz BK726 0
        have hcz102_1:wc.cell? ⟨gb726,1,none⟩ = some (.int .i64 t725):=cz BK726 1
        have hfz102_0:=blk_frozen BK726.out 0
        have hfz102_1:=blk_frozen BK726.out 1
        go_wp2_with (first | ((with_reducible refine gate_builtin (b:=.append) (xs:=#[.tmp 110,.tmp 112]) rfl ?_);at_builtin;refine Kd.R_append k23 (w0:=w) w.heap.size rfl (.tmp 110) (.tmp 112) 35 23 (.agg #[(.int .i64 0),(.int .i64 0)]) 16 rfl Try.underlying35 info23 rfl (by decide) (by omega) u8 x8_1 (⟨t724,t725⟩:S23) [.int .i64 t724,.int .i64 t725] (fun k_=>k_ ≠ gb723 ∧ k_ ≠ gb726) (fun _=>False) rfl rfl ?aP (fun _ hk=>hk.elim) ?aF ?aO ?aB ?aS ?aL ?_;(case aP=>exact k23_mkM _ _ _ (⟨t724,t725⟩:S23));(case aB=>exact (bl HB));(case aF=>exact (fun k_ hk=>⟨Kd.freshB (g:=gb723) (o:=.cells #[.int .i64 t721,.int .i64 t722] 23 (0,0)) (kb BK723) k_ hk,Kd.freshB (g:=gb726) (o:=.cells #[.int .i64 t724,.int .i64 t725] 23 (0,0)) (kb BK726) k_ hk⟩));(case aO=>exact (rs HO_8));(case aS=>exact (below_size (bl HB)));(case aL=>have:=LMc100.out;omega);intro v781 w103 ho hb hg hat;rw [← Ny780.out] at ho;have HO782:=A_ ho;replace BK723:=A_ (blk_grown (g:=gb723) (o:=.cells #[.int .i64 t721,.int .i64 t722] 23 (0,0)) (kb BK723) hg (Kd.R_away HO_8.out (fun _ hk=>hk.1)));replace BK726:=A_ (blk_grown (g:=gb726) (o:=.cells #[.int .i64 t724,.int .i64 t725] 23 (0,0)) (kb BK726) hg (Kd.R_away HO_8.out (fun _ hk=>hk.2)));replace HB:=A_ hb;clear HO_8;clear ho hb hg hat))
        go_roundg kj51
        case measure=>have:=HK1.out;have:=HJ8.out;have:=HJ51.out;omega
        case rel=>exact ⟨(y780),(wrap64 (x9_1 + 1)),(by first | rfl | (simp;done) | (simp [*];done)),H',⟨by have:=HK1.out;have:=HJ8.out;have:=HJ51.out;omega⟩,⟨by (with_reducible repeat (first | apply Kd.R_alloc | apply Kd.R_drewN | apply Kd.R_drew));exact Kd.R_mono HO782.out (fun _ hk=>trivial)⟩,⟨bl HB⟩⟩
       rw [if_pos c83] at H
       have c83b0:(a0 == 4) = true:=beq_iff_eq.mpr c83
       have c83b1:(a0 != 4) = false:=bne_eq_false_iff_eq.mpr c83
       clear c83
       replace H:=Option.bind_eq_some_iff.mp H
       obtain ⟨t769,A840,H⟩:=H
       replace H:(if 0 ≤ x9_1 then (if x9_1 < (t769.length:Int) then ((numnahref07_Add.f kj51 t721 t722 ((rd_T23 t769 x9_1).f0) ((rd_T23 t769 x9_1).f1)).bind fun bt773=>((numnahref07_Half.f kj51 bt773.1 bt773.2).bind fun bt775=>(if x8_1.length < 8796093022208 then (numnahref07_Award.l0 kj51 a0 l1 a2 t719 (x8_1 ++ [(⟨bt775.1,bt775.2⟩:S23)]) (wrap64 (x9_1 + 1))) else (none)))) else (none)) else (none)) = some r:=H
       have A84:=A_ A840
       clear A840
       replace H:=gd H
       obtain ⟨c85,H⟩:=H
       have c85b0:=decide_eq_true c85
       clear c85
       replace H:=gd H
       obtain ⟨c86,H⟩:=H
       have c86b0:=decide_eq_true c86
       clear c86
       replace H:=Option.bind_eq_some_iff.mp H
       obtain ⟨⟨t773,t774⟩,A870,H⟩:=H
       dsimp only at H
       have A87:=A_ A870
       clear A870
       replace H:=Option.bind_eq_some_iff.mp H
       obtain ⟨⟨t775,t776⟩,A880,H⟩:=H
       dsimp only at H
       have A88:=A_ A880
       clear A880
       replace H:=gd H
       obtain ⟨c89,H⟩:=H
       have LMc89:=A_ c89
       clear c89
       obtain ⟨y777,hy777⟩:∃ y_:List (S23),y_ = (x8_1 ++ [(⟨t775,t776⟩:S23)]):=⟨_,rfl⟩
       rw [← hy777] at H
       have Ny777:=A_ hy777
       clear hy777
       have H':=A_ H
       clear H
       try go_wp2
       replace HO_8:=rD HO_8
       replace BK723:=kD BK723
       replace BK726:=kD BK726
       replace HB:=bD HB
       refine st 13 (fun w'=>w'.cell? ⟨gb723,0,none⟩ = some (.int .i64 t721) ∧ w'.cell? ⟨gb723,1,none⟩ = some (.int .i64 t722)) [] numnahref07_Award.tab19 numnahref07_Award.bits19 (fun hHeld HT_ HW_=>?_)
       generalize wc.drew = w90 at HO_8 BK723 BK726 HB hHeld ⊢
       refine pq 1 99 2 HT_ ?_
       refine pq 2 100 6 HT_ ?_
       refine pq 3 101 14 HT_ ?_
       refine pq 4 102 30 HT_ ?_
       refine pq 5 103 62 HT_ ?_
       refine pq 7 105 190 HT_ ?_
       refine tq 0 98 191 HT_ HW_ hHeld ?_
       refine oq 6 104 255 HT_ (fun K hK=>?_)
       refine gq Try.func75 #[.slice (some ad720) l1.length c1,.int .i64 (wrap64 ((wrap64 (2 * a2)) - t719))] ?_
       with_reducible refine (numnahref07_equal.calls kj51 _ _ l1 (wrap64 ((wrap64 (2 * a2)) - t719)) t769 _ ?side1 ?side2 A84.out).mono ?_
       (case side1=>exact cB HR1 HB)
       (case side2=>exact HC1.out)
       rintro e w91 ⟨v770,rfl,ho0,hb⟩
       refine ⟨_,rfl,?_⟩
       have HO771:=A_ (Kd.R_lower (Kd.R_newB (Kd.R_newB (Kd.R_new' ho0 (Kd.R_lt (rs HO_8))) (g:=gb723) (o:=.cells #[.int .i64 t721,.int .i64 t722] 23 (0,0)) (kb BK723)) (g:=gb726) (o:=.cells #[.int .i64 t724,.int .i64 t725] 23 (0,0)) (kb BK726)) (below_size (bl HB)))
       replace HO_8:=A_ (Kd.R_elder' (rs HO_8) (Kd.R_base ho0) hb)
       replace BK723:=kB BK723 hb
       replace BK726:=kB BK726 hb
       replace HB:=bB HB hb
       (try clear hb)
       obtain ⟨Ao92,co92,eo92⟩:=Kd.R_slice HO771.out
       (first | subst eo92 | (injection eo92 with f1_ f2_ f3_;have f4_:=f1_.symm;have f5_:=f3_.symm;clear f1_ f2_ f3_;subst f4_;subst f5_))
       have p772:0 ≤ (x9_1:Int):=of_decide_eq_true (by first | (with_reducible assumption) | assumption)
       have q772:x9_1 < (t769.length:Int):=of_decide_eq_true (by first | (with_reducible assumption) | assumption)
       obtain ⟨ad772,e772,hx772_0,hx772_1⟩:=at_T23 (Kd.R_reads' HO771.out).2.2 x9_1 p772 q772
       cases e772
       replace p772:=eq_true p772
       replace q772:=eq_true q772
       refine hz hK (fun hHeld=>?_)
       clear hK K
       refine nq 104 ?_
       refine pq 8 106 511 HT_ ?_
       refine oq 9 107 1023 HT_ (fun K hK=>?_)
       refine value_ (w1:=?_) (v:=?_) (by rfl) rfl ?_ ?_
       rotate_left 2
       ·go_simp
        constructor
        ·rfl
        rfl
       refine hK.out _ _ hHeld (fun hHeld=>?_)
       clear hK K
       refine nq 107 ?_
       refine oq 10 108 2047 HT_ (fun K hK=>?_)
       refine gq Try.func28 #[.agg #[.int .i64 t721,.int .i64 t722],.agg #[.int .i64 ((rd_T23 t769 x9_1).f0),.int .i64 ((rd_T23 t769 x9_1).f1)]] ?_
       with_reducible refine (numnahref07_Add.calls kj51 t721 t722 ((rd_T23 t769 x9_1).f0) ((rd_T23 t769 x9_1).f1) t773 t774 _ A87.out).mono ?_
       rintro e w93 ⟨rfl,hb⟩
       refine ⟨_,rfl,?_⟩
       replace HO_8:=rB HO_8 hb
       replace HO771:=rB HO771 hb
       replace BK723:=kB BK723 hb
       replace BK726:=kB BK726 hb
       replace HB:=bB HB hb
       (try clear hb)
       refine hz hK (fun hHeld=>?_)
       clear hK K
       refine nq 108 ?_
       refine oq 11 109 4095 HT_ (fun K hK=>?_)
       refine gq Try.func67 #[.agg #[.int .i64 t773,.int .i64 t774]] ?_
       with_reducible refine (numnahref07_Half.calls kj51 t773 t774 t775 t776 _ A88.out).mono ?_
       rintro e w94 ⟨rfl,hb⟩
       refine ⟨_,rfl,?_⟩
       replace HO_8:=rB HO_8 hb
       replace HO771:=rB HO771 hb
       replace BK723:=kB BK723 hb
       replace BK726:=kB BK726 hb
       replace HB:=bB HB hb
       (try clear hb)
       refine hz hK (fun hHeld=>?_)
       clear hK K
       refine nq 109 ?_
       refine one_ (i:=12) (N:=none) (ba 13 8191) rfl rfl (one_of HT_.out (by kernel_rfl)) (by decide) (fun K hK=>?_)
       have hs95:w94.cell? ⟨gb726,0,none⟩ = some (.int .i64 t724):=cz BK726 0
       have hfs95:=blk_frozen BK726.out 0
       have hns95_0:=NB723_726.out
       have hms95_0:=NB726_723.out
       have hs96:w94.cell? ⟨gb726,1,none⟩ = some (.int .i64 t725):=cz BK726 1
       have hfs96:=blk_frozen BK726.out 1
       have hns96_0:=NB723_726.out
       have hms96_0:=NB726_723.out
       refine skip_ (w1:=?_) (by rfl) rfl ?_ ?_
       rotate_left
       ·go_simp
        rfl
       refine hK.out _ _ ⟨((cell_far (p:=⟨gb726,_,none⟩) NB723_726.out _).trans (((cell_far (p:=⟨gb726,_,none⟩) NB723_726.out _).trans (hHeld.1)))),((cell_far (p:=⟨gb726,_,none⟩) NB723_726.out _).trans (((cell_far (p:=⟨gb726,_,none⟩) NB723_726.out _).trans (hHeld.2))))⟩ (fun hHeld=>?_)
       clear hK K
       refine done_ (done_of HT_.out (by kernel_rfl)) ?_
       have hnb97:=NB726_723.out
       have hnc97:=NB723_726.out
       have hcz98_0:w94.cell? ⟨gb726,0,none⟩ = some (.int .i64 t724):=cz BK726 0
       have hcz98_1:w94.cell? ⟨gb726,1,none⟩ = some (.int .i64 t725):=cz BK726 1
       have hfz98_0:=blk_frozen BK726.out 0
       have hfz98_1:=blk_frozen BK726.out 1
       try go_wp2_with (first | ((with_reducible refine gate_builtin (b:=.append) (xs:=#[.tmp 110,.tmp 112]) rfl ?_);at_builtin;refine Kd.R_append k23 (w0:=w) w.heap.size rfl (.tmp 110) (.tmp 112) 35 23 (.agg #[(.int .i64 0),(.int .i64 0)]) 16 rfl Try.underlying35 info23 rfl (by decide) (by omega) u8 x8_1 (⟨t775,t776⟩:S23) [.int .i64 t775,.int .i64 t776] (fun k_=>some k_ ≠ (.slice (some ad772) t769.length co92:Value).ownBlock ∧ k_ ≠ gb723 ∧ k_ ≠ gb726) (fun _=>False) rfl (by first | (go_simp;done) | (go_simp;rfl)) ?aP (fun _ hk=>hk.elim) ?aF ?aO ?aB ?aS ?aL ?_;(case aP=>exact k23_mkM _ _ _ (⟨t775,t776⟩:S23));(case aB=>exact (bl HB));(case aF=>exact (fun k_ hk=>⟨Kd.fresh' (Kd.R_lt (by (with_reducible repeat (first | apply Kd.R_alloc | apply Kd.R_drewN | apply Kd.R_drew));exact (Kd.R_mono (Kd.R_far (p:=⟨gb726,1,none⟩) (Kd.R_far (p:=⟨gb726,0,none⟩) (Kd.R_mono HO771.out (fun k_ hk=>(⟨hk,hk.2⟩:_ ∧ k_ ≠ gb726))) (fun _ hk=>hk.2) (.int .i64 t775)) (fun _ hk=>hk.2) (.int .i64 t776)) (fun _ h_=>h_.1)))) k_ hk,Kd.freshB (g:=gb723) (o:=.cells #[.int .i64 t721,.int .i64 t722] 23 (0,0)) (by (with_reducible repeat (first | refine blk_drewN ?_ _ | refine blk_drew ?_ | refine blk_alloc ?_ _));refine blk_far ?_ NB723_726.out _;(with_reducible repeat (first | refine blk_drewN ?_ _ | refine blk_drew ?_ | refine blk_alloc ?_ _));refine blk_far ?_ NB723_726.out _;(with_reducible repeat (first | refine blk_drewN ?_ _ | refine blk_drew ?_ | refine blk_alloc ?_ _));exact BK723.out) k_ hk,Kd.freshB (g:=gb726) (o:=.cells #[.int .i64 t775,.int .i64 t776] 23 (0,0)) (by (with_reducible repeat (first | refine blk_drewN ?_ _ | refine blk_drew ?_ | refine blk_alloc ?_ _));refine blk_put (cs:=#[.int .i64 t775,.int .i64 t725]) ?_ 1 _ rfl;(with_reducible repeat (first | refine blk_drewN ?_ _ | refine blk_drew ?_ | refine blk_alloc ?_ _));refine blk_put (cs:=#[.int .i64 t724,.int .i64 t725]) ?_ 0 _ rfl;(with_reducible repeat (first | refine blk_drewN ?_ _ | refine blk_drew ?_ | refine blk_alloc ?_ _));exact BK726.out) k_ hk⟩));(case aO=>exact (by (with_reducible repeat (first | apply Kd.R_alloc | apply Kd.R_drewN | apply Kd.R_drew));exact Kd.R_mono (Kd.R_far (p:=⟨gb726,1,none⟩) (Kd.R_far (p:=⟨gb726,0,none⟩) (Kd.R_mono HO_8.out (fun k_ hk=>(⟨hk,hk.1.2⟩:_ ∧ k_ ≠ gb726))) (fun _ hk=>hk.2) (.int .i64 t775)) (fun _ hk=>hk.2) (.int .i64 t776)) (fun _ hk=>⟨hk.1.2,⟨hk.1.1.1,hk.1.1.2⟩⟩)));(case aS=>exact (below_size (bl HB)));(case aL=>have:=LMc89.out;omega);intro v778 w99 ho hb hg hat;rw [← Ny777.out] at ho;have HO779:=A_ ho;replace BK723:=A_ (blk_grown (g:=gb723) (o:=.cells #[.int .i64 t721,.int .i64 t722] 23 (0,0)) (by (with_reducible repeat (first | refine blk_drewN ?_ _ | refine blk_drew ?_ | refine blk_alloc ?_ _));refine blk_far ?_ NB723_726.out _;(with_reducible repeat (first | refine blk_drewN ?_ _ | refine blk_drew ?_ | refine blk_alloc ?_ _));refine blk_far ?_ NB723_726.out _;(with_reducible repeat (first | refine blk_drewN ?_ _ | refine blk_drew ?_ | refine blk_alloc ?_ _));exact BK723.out) hg (Kd.R_away HO_8.out (fun _ hk=>hk.1.1)));replace BK726:=A_ (blk_grown (g:=gb726) (o:=.cells #[.int .i64 t775,.int .i64 t776] 23 (0,0)) (by (with_reducible repeat (first | refine blk_drewN ?_ _ | refine blk_drew ?_ | refine blk_alloc ?_ _));refine blk_put (cs:=#[.int .i64 t775,.int .i64 t725]) ?_ 1 _ rfl;(with_reducible repeat (first | refine blk_drewN ?_ _ | refine blk_drew ?_ | refine blk_alloc ?_ _));refine blk_put (cs:=#[.int .i64 t724,.int .i64 t725]) ?_ 0 _ rfl;(with_reducible repeat (first | refine blk_drewN ?_ _ | refine blk_drew ?_ | refine blk_alloc ?_ _));exact BK726.out) hg (Kd.R_away HO_8.out (fun _ hk=>hk.1.2)));replace HO771:=A_ (Kd.R_after (ok:=(fun k_=>k_ ≠ gb723 ∧ k_ ≠ gb726)) (by (with_reducible repeat (first | apply Kd.R_alloc | apply Kd.R_drewN | apply Kd.R_drew));exact Kd.R_mono (Kd.R_far (p:=⟨gb726,1,none⟩) (Kd.R_far (p:=⟨gb726,0,none⟩) (Kd.R_mono HO771.out (fun k_ hk=>(⟨hk,hk.2⟩:_ ∧ k_ ≠ gb726))) (fun _ hk=>hk.2) (.int .i64 t775)) (fun _ hk=>hk.2) (.int .i64 t776)) (fun _ hk=>⟨⟨hk.1.1.2,hk.1.2⟩,hk.1.1.1.2⟩)) hg hat);replace HB:=A_ hb;clear HO_8;clear ho hb hg hat))
       go_roundg kj51
       case measure=>have:=HK1.out;have:=HJ8.out;have:=HJ51.out;omega
       case rel=>exact ⟨(y777),(wrap64 (x9_1 + 1)),(by first | rfl | (simp;done) | (simp [*];done)),H',⟨by have:=HK1.out;have:=HJ8.out;have:=HJ51.out;omega⟩,⟨by (with_reducible repeat (first | apply Kd.R_alloc | apply Kd.R_drewN | apply Kd.R_drew));exact Kd.R_mono HO779.out (fun _ hk=>trivial)⟩,⟨bl HB⟩⟩
end Go.Proofs.Ytjohcjfmlhihbaa.G
set_option linter.unusedSectionVars false
namespace Go.Proofs.Ytjohcjfmlhihbaa.P
open Go Go.RowKit Go.Proofs.Ytjohcjfmlhihbaa.G
open Go.Proofs.YtjohcjfmlhihbaaW.PrintWords Go.Proofs.YtjohcjfmlhihbaaW.PrintMore
theorem raward_loop {r E s:Int} {l:List Int} (hl:l.length ≤ 10) (y:List Rat) (hy:y.length = l.length)
  (step:∀ (i:Nat) (hi:i < l.length) (acc:List S23) (v:List S23),acc.length ≤ 10 → Ev (fun k=>numnahref07_Award.l0 k r l E s (acc ++ [encQ (y[i]'(by omega))]) ((i + 1:Nat):Int)) v → Ev (fun k=>numnahref07_Award.l0 k r l E s acc (i:Int)) v) :
  Ev (fun k=>numnahref07_Award.l0 k r l E s [] 0) (encL y):=by
 have go:∀ (d i:Nat),i + d = l.length → Ev (fun k=>numnahref07_Award.l0 k r l E s (encL (y.take i)) (i:Int)) (encL y):=by
  intro d
  induction d with
  | zero =>
   intro i hi
   refine Ev.step (f:=fun _=>some (encL y)) (fun k=>?_) (Ev.now _)
   rw [numnahref07_Award.l0,if_neg (by omega),List.take_of_length_le (by omega)]
  | succ d ih =>
   intro i hi
   refine step i (by omega) _ _ (by rw [encL_length,List.length_take];omega) ?_
   have:=ih (i + 1) (by omega)
   rw [List.take_succ_eq_append_getElem (by omega:i < y.length)] at this
   unfold encL at this ⊢
   rw [List.map_append] at this
   exact this
 exact go l.length 0 (by omega)
section
variable {l:List Int} (h:IsCl l) {E:Int} (h0:0 ≤ E) (h1:E ≤ sI l)
include h h0 h1
theorem raward_start {r:Int} {y:List S23} (hv:Ev (fun k=>numnahref07_Award.l0 k r l E (sI l) [] 0) y):Ev (fun k=>numnahref07_Award.f k r l E) y:=by
 unfold numnahref07_Award.f
 exact Ev.bind (ev_rtotal h.mem (by have:=h.ten;omega)) hv
theorem head_l0 {r:Int} {acc v:List S23} {i:Nat} (hi:i < l.length) (hv:Ev (fun k=>if r = 0 then numnahref07_Award.j1 k r l E (sI l) acc (i:Int) (decide (sI l > 0)) l[i] 1 0 1 else numnahref07_Award.j1 k r l E (sI l) acc (i:Int) false l[i] 1 0 1) v) :
  Ev (fun k=>numnahref07_Award.l0 k r l E (sI l) acc (i:Int)) v:=by
 refine Ev.step (fun k=>?_) hv
 rw [numnahref07_Award.l0,if_pos (by omega),if_pos (by omega),rd_get hi]
 rfl
theorem rprop:∃ x,IsRule 0 (cl l) (E:Rat) x ∧ Ev (fun k=>numnahref07_Award.f k 0 l E) (encL x):=by
 have hs:=sI_cl h
 have hl:=h.ten
 obtain ⟨a,ha⟩:∃ a:Nat,sI l = (a:Int):=⟨(sI l).toNat,by omega⟩
 have haR:(a:Rat) = tot (cl l):=by rw [tot_cl,ha];rfl
 by_cases hp:0 < sI l
 ·have hp':0 < tot (cl l):=by rw [tot_cl];exact Rat.intCast_pos.2 hp
  refine ⟨(cl l).map fun c=>c * (E:Rat) / tot (cl l),⟨fun c=>if 0 < tot (cl l) then c * (E:Rat) / tot (cl l) else 0,rfl,List.map_congr_left fun c _=>by rw [if_pos hp'],?_⟩,raward_start h h0 h1 (raward_loop hl _ (by rw [List.length_map,cl_length]) ?_)⟩
  ·have e2:((cl l).map fun c=>c * (E:Rat) / tot (cl l)) = (cl l).map fun c=>c * ((E:Rat) / tot (cl l)):=List.map_congr_left fun c _=>by
    rw [Rat.div_def,Rat.div_def,Rat.mul_assoc]
   rw [e2,tot_mul (fun c=>c),List.map_id',Rat.mul_comm]
   exact Rat.div_mul_cancel (by grind)
  ·intro i hi acc v hacc hv
   refine head_l0 h h0 h1 hi ?_
   simp only [if_true]
   have hm:=h.mem _ (List.getElem_mem hi)
   have hb:(l[i] * E).natAbs ≤ 1000 * 10000:=by
    rw [Int.natAbs_mul];exact Nat.mul_le_mul (by omega) (by omega)
   obtain ⟨K1,e1⟩:=ev_frac (l[i] * E) a (by omega) (by omega) (by omega)
   obtain ⟨K2,e2⟩:=hv
   refine ⟨K1 + K2 + 1,fun k hk=>?_⟩
   obtain ⟨m,rfl⟩:∃ m,k = m + 1:=⟨k - 1,by omega⟩
   have f1:=e1 m (by omega)
   have f2:=e2 m (by omega)
   have e:(⟨(mkRat (l[i] * E) a).num,((mkRat (l[i] * E) a).den:Int)⟩:S23) = encQ (((cl l).map fun c=>c * (E:Rat) / tot (cl l))[i]'(by rw [List.length_map,cl_length];exact hi)):=by
    rw [List.getElem_map,cl_get hi,mk_frac,← haR];push_cast;rfl
   show numnahref07_Award.j1 (m + 1) _ _ _ _ _ _ _ _ _ _ _ = _
   rw [numnahref07_Award.j1,decide_eq_true (by omega:sI l > 0),if_pos rfl,if_pos (by omega),if_pos (by omega),rd_get hi,wrap_abs (by omega:(l[i] * E).natAbs < _),ref_reduced,ha]
   simp only [f1,Option.bind_some]
   rw [if_pos (by omega),e,wrap_succ (by omega),← ha]
   exact f2
 ·have hp':¬ 0 < tot (cl l):=by rw [tot_cl];exact fun k=>hp (Rat.intCast_pos.1 k)
  have hE:E = 0:=by omega
  refine ⟨(cl l).map fun _=>0,⟨fun c=>if 0 < tot (cl l) then c * (E:Rat) / tot (cl l) else 0,rfl,List.map_congr_left fun c _=>by rw [if_neg hp'],?_⟩,raward_start h h0 h1 (raward_loop hl _ (by rw [List.length_map,cl_length]) ?_)⟩
  ·rw [tot_const,Rat.mul_zero,hE];rfl
  ·intro i hi acc v hacc hv
   refine head_l0 h h0 h1 hi ?_
   simp only [if_true]
   have e:(⟨0,1⟩:S23) = encQ (((cl l).map fun _=>(0:Rat))[i]'(by rw [List.length_map,cl_length];exact hi)):=by
    rw [List.getElem_map];rfl
   refine Ev.step (f:=fun k=>numnahref07_Award.j2 k 0 l E (sI l) acc (i:Int) false l[i] 1 0 1) (fun k=>?_) (Ev.step (fun k=>?_) hv)
   ·rw [numnahref07_Award.j1,decide_eq_false (by omega:¬ sI l > 0),if_neg (by decide),if_neg (by decide),if_neg (by decide),if_neg (by decide)]
   ·rw [numnahref07_Award.j2,if_neg (by decide),if_neg (by decide),if_neg (by decide),if_pos (by omega),e,wrap_succ (by omega)]
theorem rawards:∃ x,IsRule 1 (cl l) (E:Rat) x ∧ Ev (fun k=>numnahref07_Award.f k 1 l E) (encL x):=by
 have hs:=sI_cl h
 have hl:=h.ten
 obtain ⟨x,⟨L,rfl,ht⟩,hx⟩:=ev_requal h h0 (by omega) h1
 refine ⟨_,⟨fun c=>min c L,⟨L,rfl⟩,rfl,ht⟩,raward_start h h0 h1 (raward_loop hl _ (by rw [List.length_map,cl_length]) ?_)⟩
 intro i hi acc v hacc hv
 refine head_l0 h h0 h1 hi ?_
 simp only [show ¬ (1:Int) = 0 by decide,if_false]
 obtain ⟨K1,e1⟩:=hx
 obtain ⟨K2,e2⟩:=hv
 refine ⟨K1 + K2 + 1,fun k hk=>?_⟩
 obtain ⟨m,rfl⟩:∃ m,k = m + 1:=⟨k - 1,by omega⟩
 have f1:=e1 m (by omega)
 have f2:=e2 m (by omega)
 have hi2:i < ((cl l).map fun c=>min c L).length:=by rw [List.length_map,cl_length];exact hi
 show numnahref07_Award.j1 (m + 1) _ _ _ _ _ _ _ _ _ _ _ = _
 rw [numnahref07_Award.j1,if_neg (by decide),if_pos rfl]
 simp only [f1,Option.bind_some]
 rw [if_pos (by omega),encL_length,if_pos (by omega),if_pos (by omega),rdE hi2,wrap_succ (by omega)]
 exact f2
theorem rlosses:∃ x,IsRule 2 (cl l) (E:Rat) x ∧ Ev (fun k=>numnahref07_Award.f k 2 l E) (encL x):=by
 have hs:=sI_cl h
 have hl:=h.ten
 have e0:((sI l - E:Int):Rat) = tot (cl l) - (E:Rat):=by rw [tot_cl];push_cast;rfl
 obtain ⟨x,⟨L,rfl,ht⟩,hx⟩:=ev_requal h (E:=sI l - E) (by omega) (by omega) (by omega)
 have hsm:=min_small (cl_okC h) (by rw [cl_length];exact hl) (E_ge (by omega)) (E_den _) ht
 refine ⟨(cl l).map fun c=>c - min c L,⟨fun c=>c - min c L,⟨L,rfl⟩,rfl,?_⟩,raward_start h h0 h1 (raward_loop hl _ (by rw [List.length_map,cl_length]) ?_)⟩
 ·have:=tot_sub (fun c=>c) (fun c=>min c L) (cl l)
  rw [List.map_id'] at this
  rw [this,ht,e0];grind
 intro i hi acc v hacc hv
 refine head_l0 h h0 h1 hi ?_
 simp only [show ¬ (2:Int) = 0 by decide,if_false]
 have hm:=h.mem _ (List.getElem_mem hi)
 have hi2:i < ((cl l).map fun c=>min c L).length:=by rw [List.length_map,cl_length];exact hi
 have hsi:=hsm _ (List.mem_map.2 ⟨l[i],List.getElem_mem hi,rfl⟩)
 have e3:=ev_rsub ((Sm.int (n:=l[i]) (A:=1000) (by omega)).fits hsi (by decide) (by decide))
 rw [whole_num,whole_den] at e3
 obtain ⟨K1,e1⟩:=hx
 obtain ⟨K2,e2⟩:=hv
 obtain ⟨K3,e3⟩:=e3
 refine ⟨K1 + K2 + K3 + 1,fun k hk=>?_⟩
 obtain ⟨m,rfl⟩:∃ m,k = m + 1:=⟨k - 1,by omega⟩
 have f1:=e1 m (by omega)
 have f2:=e2 m (by omega)
 have f3:numnahref07_Sub.f m l[i] 1 _ _ = _:=e3 m (by omega)
 have e:(⟨((l[i]:Rat) - min (l[i]:Rat) L).num,(((l[i]:Rat) - min (l[i]:Rat) L).den:Int)⟩:S23) = encQ (((cl l).map fun c=>c - min c L)[i]'(by rw [List.length_map,cl_length];exact hi)):=by
  rw [List.getElem_map,cl_get hi];rfl
 show numnahref07_Award.j1 (m + 1) _ _ _ _ _ _ _ _ _ _ _ = _
 rw [numnahref07_Award.j1,if_neg (by decide),if_neg (by decide),if_pos rfl,wrap_id (x:=sI l - E) (by omega) (by omega)]
 simp only [f1,Option.bind_some]
 rw [if_pos (by omega),encL_length,if_pos (by omega),rdE hi2,List.getElem_map,cl_get hi]
 simp only [encQ,f3,Option.bind_some]
 rw [if_pos (by omega),wrap_succ (by omega),e]
 exact f2
theorem half_den {q:Rat} (hq:Sm 20000 20 q):q.num.natAbs < 9223372036854775808 ∧ 2 * q.den < 9223372036854775808:=⟨Nat.lt_of_le_of_lt hq.num (by decide),by have:=hq.den;omega⟩
theorem to_j2 {r:Nat} (hr:r = 3 ∨ r = 4) {acc v:List S23} {i:Nat} (hi:i < l.length) (hv:Ev (fun k=>numnahref07_Award.j2 k (r:Int) l E (sI l) acc (i:Int) (decide (2 * E ≤ sI l)) l[i] 1 0 1) v) :
  Ev (fun k=>numnahref07_Award.l0 k (r:Int) l E (sI l) acc (i:Int)) v:=by
 have hs:=sI_cl h
 refine head_l0 h h0 h1 hi ?_
 simp only [show ¬ (r:Int) = 0 by omega,if_false]
 refine Ev.step (fun k=>?_) hv
 rw [numnahref07_Award.j1,if_neg (by decide),if_neg (by omega),if_neg (by omega),if_pos (by omega),wrap_id (x:=2 * E) (by omega) (by omega)]
theorem rlow {r:Nat} (hr:r = 3 ∨ r = 4) (hlow:2 * E ≤ sI l):∃ x,IsRule r (cl l) (E:Rat) x ∧ Ev (fun k=>numnahref07_Award.f k (r:Int) l E) (encL x):=by
 have hs:=sI_cl h
 have hl:=h.ten
 obtain ⟨x,⟨L,rfl,ht⟩,hx⟩:=ev_requal h (E:=2 * E) (by omega) (by omega) (by omega)
 have hsm:=min_small (cl_okC h) (by rw [cl_length];exact hl) (E_ge (by omega)) (E_den _) ht
 have hmin:∀ c:Rat,min c L / 2 = min (c / 2) (L / 2):=fun c=>by grind
 have htot:tot ((cl l).map fun c=>min (c / 2) (L / 2)) = (E:Rat):=by
  have e1:((cl l).map fun c=>min (c / 2) (L / 2)) = (cl l).map fun c=>min c L * (1 / 2):=List.map_congr_left fun c _=>by rw [← hmin];grind
  rw [e1,tot_mul,ht];push_cast;grind
 have hform:Form r (cl l) (E:Rat) (fun c=>min (c / 2) (L / 2)):=by
  rcases hr with rfl | rfl
  ·exact .inl ⟨low_cond h h0 h1 hlow,_,rfl⟩
  ·exact .inl ⟨low_cond h h0 h1 hlow,_,rfl⟩
 refine ⟨(cl l).map fun c=>min (c / 2) (L / 2),⟨_,hform,rfl,htot⟩,raward_start h h0 h1 (raward_loop hl _ (by rw [List.length_map,cl_length]) ?_)⟩
 intro i hi acc v hacc hv
 refine to_j2 h h0 h1 hr hi ?_
 have hi2:i < ((cl l).map fun c=>min c L).length:=by rw [List.length_map,cl_length];exact hi
 have hsi:=half_den h h0 h1 (hsm _ (List.mem_map.2 ⟨l[i],List.getElem_mem hi,rfl⟩))
 obtain ⟨K3,e3⟩:=ev_rhalf hsi.1 hsi.2
 obtain ⟨K1,e1⟩:=hx
 obtain ⟨K2,e2⟩:=hv
 refine ⟨K1 + K2 + K3 + 1,fun k hk=>?_⟩
 obtain ⟨m,rfl⟩:∃ m,k = m + 1:=⟨k - 1,by omega⟩
 have f1:=e1 m (by omega)
 have f2:=e2 m (by omega)
 have f3:=e3 m (by omega)
 have e:(⟨(min (l[i]:Rat) L / 2).num,((min (l[i]:Rat) L / 2).den:Int)⟩:S23) = encQ (((cl l).map fun c=>min (c / 2) (L / 2))[i]'(by rw [List.length_map,cl_length];exact hi)):=by
  rw [List.getElem_map,cl_get hi,← hmin];rfl
 show numnahref07_Award.j2 (m + 1) _ _ _ _ _ _ _ _ _ _ _ = _
 rw [numnahref07_Award.j2,decide_eq_true hlow,if_pos rfl,wrap_id (x:=2 * E) (by omega) (by omega)]
 simp only [f1,Option.bind_some]
 rw [if_pos (by omega),encL_length,if_pos (by omega),rdE hi2,List.getElem_map,cl_get hi]
 simp only [encQ,f3,Option.bind_some]
 rw [if_pos (by omega),wrap_succ (by omega),e]
 exact f2
theorem rtalmud:∃ x,IsRule 3 (cl l) (E:Rat) x ∧ Ev (fun k=>numnahref07_Award.f k 3 l E) (encL x):=by
 by_cases hlow:2 * E ≤ sI l
 ·exact rlow h h0 h1 (r:=3) (.inl rfl) hlow
 have hs:=sI_cl h
 have hl:=h.ten
 have e0:((2 * (sI l - E):Int):Rat) = 2 * (tot (cl l) - (E:Rat)):=by rw [tot_cl];push_cast;rfl
 obtain ⟨x,⟨L,rfl,ht⟩,hx⟩:=ev_requal h (E:=2 * (sI l - E)) (by omega) (by omega) (by omega)
 have hsm:=min_small (cl_okC h) (by rw [cl_length];exact hl) (E_ge (by omega)) (E_den _) ht
 have hmin:∀ c:Rat,min c L / 2 = min (c / 2) (L / 2):=fun c=>by grind
 have htot:tot ((cl l).map fun c=>c - min (c / 2) (L / 2)) = (E:Rat):=by
  have:=tot_sub (fun c=>c) (fun c=>min (c / 2) (L / 2)) (cl l)
  rw [List.map_id'] at this
  have e1:((cl l).map fun c=>min (c / 2) (L / 2)) = (cl l).map fun c=>min c L * (1 / 2):=List.map_congr_left fun c _=>by rw [← hmin];grind
  rw [this,e1,tot_mul,ht,e0];grind
 refine ⟨(cl l).map fun c=>c - min (c / 2) (L / 2),⟨_,.inr ⟨high_cond h h0 h1 hlow,_,rfl⟩,rfl,htot⟩,raward_start h h0 h1 (raward_loop hl _ (by rw [List.length_map,cl_length]) ?_)⟩
 intro i hi acc v hacc hv
 refine to_j2 h h0 h1 (r:=3) (.inl rfl) hi ?_
 have hm:=h.mem _ (List.getElem_mem hi)
 have hi2:i < ((cl l).map fun c=>min c L).length:=by rw [List.length_map,cl_length];exact hi
 have hsi0:=hsm _ (List.mem_map.2 ⟨l[i],List.getElem_mem hi,rfl⟩)
 have hsi:=half_den h h0 h1 hsi0
 obtain ⟨K3,e3⟩:=ev_rhalf hsi.1 hsi.2
 have e4:=ev_rsub ((Sm.int (n:=l[i]) (A:=1000) (by omega)).fits hsi0.half (by decide) (by decide))
 rw [whole_num,whole_den] at e4
 obtain ⟨K4,e4⟩:=e4
 obtain ⟨K1,e1⟩:=hx
 obtain ⟨K2,e2⟩:=hv
 refine ⟨K1 + K2 + K3 + K4 + 1,fun k hk=>?_⟩
 obtain ⟨m,rfl⟩:∃ m,k = m + 1:=⟨k - 1,by omega⟩
 have f1:=e1 m (by omega)
 have f2:=e2 m (by omega)
 have f3:=e3 m (by omega)
 have f4:numnahref07_Sub.f m l[i] 1 _ _ = _:=e4 m (by omega)
 have e:(⟨((l[i]:Rat) - min (l[i]:Rat) L / 2).num,(((l[i]:Rat) - min (l[i]:Rat) L / 2).den:Int)⟩:S23) = encQ (((cl l).map fun c=>c - min (c / 2) (L / 2))[i]'(by rw [List.length_map,cl_length];exact hi)):=by
  rw [List.getElem_map,cl_get hi,← hmin];rfl
 show numnahref07_Award.j2 (m + 1) 3 _ _ _ _ _ _ _ _ _ _ = _
 rw [numnahref07_Award.j2,decide_eq_false hlow,if_neg (by decide),if_pos rfl,wrap_id (x:=sI l - E) (by omega) (by omega),wrap_id (x:=2 * (sI l - E)) (by omega) (by omega)]
 simp only [f1,Option.bind_some]
 rw [if_pos (by omega),encL_length,if_pos (by omega),rdE hi2,List.getElem_map,cl_get hi]
 simp only [encQ,f3,f4,Option.bind_some]
 rw [if_pos (by omega),wrap_succ (by omega),e]
 exact f2
theorem rpiniles:∃ x,IsRule 4 (cl l) (E:Rat) x ∧ Ev (fun k=>numnahref07_Award.f k 4 l E) (encL x):=by
 by_cases hlow:2 * E ≤ sI l
 ·exact rlow h h0 h1 (r:=4) (.inr rfl) hlow
 have hs:=sI_cl h
 have hl:=h.ten
 have e0:((2 * E - sI l:Int):Rat) = 2 * (E:Rat) - tot (cl l):=by rw [tot_cl];push_cast;rfl
 obtain ⟨x,⟨L,rfl,ht⟩,hx⟩:=ev_requal h (E:=2 * E - sI l) (by omega) (by omega) (by omega)
 have hsm:=min_small (cl_okC h) (by rw [cl_length];exact hl) (E_ge (by omega)) (E_den _) ht
 have hmin:∀ c:Rat,(c + min c L) / 2 = c / 2 + min (c / 2) (L / 2):=fun c=>by grind
 have htot:tot ((cl l).map fun c=>c / 2 + min (c / 2) (L / 2)) = (E:Rat):=by
  have e1:((cl l).map fun c=>c / 2 + min (c / 2) (L / 2)) = (cl l).map fun c=>(c + min c L) * (1 / 2):=List.map_congr_left fun c _=>by rw [← hmin];grind
  have e2:=tot_add (fun c=>c) (fun c=>min c L) (cl l)
  rw [List.map_id'] at e2
  rw [e1,tot_mul,e2,ht,e0];grind
 refine ⟨(cl l).map fun c=>c / 2 + min (c / 2) (L / 2),⟨_,.inr ⟨high_cond h h0 h1 hlow,_,rfl⟩,rfl,htot⟩,raward_start h h0 h1 (raward_loop hl _ (by rw [List.length_map,cl_length]) ?_)⟩
 intro i hi acc v hacc hv
 refine to_j2 h h0 h1 (r:=4) (.inr rfl) hi ?_
 have hm:=h.mem _ (List.getElem_mem hi)
 have hi2:i < ((cl l).map fun c=>min c L).length:=by rw [List.length_map,cl_length];exact hi
 have hsi0:=hsm _ (List.mem_map.2 ⟨l[i],List.getElem_mem hi,rfl⟩)
 have hw:Sm 1000 1 ((l[i]:Int):Rat):=Sm.int (by omega)
 have e3:=ev_radd (hw.fits hsi0 (by decide) (by decide))
 have hsum:=hw.add hsi0
 have e4:=ev_rhalf (q:=(l[i]:Rat) + min (l[i]:Rat) L) (Nat.lt_of_le_of_lt hsum.num (by decide)) (by have:=hsum.den;omega)
 rw [whole_num,whole_den] at e3
 obtain ⟨K3,e3⟩:=e3
 obtain ⟨K4,e4⟩:=e4
 obtain ⟨K1,e1⟩:=hx
 obtain ⟨K2,e2⟩:=hv
 refine ⟨K1 + K2 + K3 + K4 + 1,fun k hk=>?_⟩
 obtain ⟨m,rfl⟩:∃ m,k = m + 1:=⟨k - 1,by omega⟩
 have f1:=e1 m (by omega)
 have f2:=e2 m (by omega)
 have f3:numnahref07_Add.f m l[i] 1 _ _ = _:=e3 m (by omega)
 have f4:=e4 m (by omega)
 have e:(⟨(((l[i]:Rat) + min (l[i]:Rat) L) / 2).num,((((l[i]:Rat) + min (l[i]:Rat) L) / 2).den:Int)⟩:S23) = encQ (((cl l).map fun c=>c / 2 + min (c / 2) (L / 2))[i]'(by rw [List.length_map,cl_length];exact hi)):=by
  rw [List.getElem_map,cl_get hi,← hmin];rfl
 show numnahref07_Award.j2 (m + 1) 4 _ _ _ _ _ _ _ _ _ _ = _
 rw [numnahref07_Award.j2,decide_eq_false hlow,if_neg (by decide),if_neg (by decide),if_pos rfl,wrap_id (x:=2 * E) (by omega) (by omega),wrap_id (x:=2 * E - sI l) (by omega) (by omega)]
 simp only [f1,Option.bind_some]
 rw [if_pos (by omega),encL_length,if_pos (by omega),rdE hi2,List.getElem_map,cl_get hi]
 simp only [encQ,f3,f4,Option.bind_some]
 rw [if_pos (by omega),wrap_succ (by omega),e]
 exact f2
theorem ev_rAward {r:Nat} (hr:r ≤ 4):∃ x,IsRule r (cl l) (E:Rat) x ∧ Ev (fun k=>numnahref07_Award.f k (r:Int) l E) (encL x):=by
 obtain rfl | rfl | rfl | rfl | rfl:r = 0 ∨ r = 1 ∨ r = 2 ∨ r = 3 ∨ r = 4:=by omega
 ·exact rprop h h0 h1
 ·exact rawards h h0 h1
 ·exact rlosses h h0 h1
 ·exact rtalmud h h0 h1
 ·exact rpiniles h h0 h1
end
end Go.Proofs.Ytjohcjfmlhihbaa.P
namespace Go.Proofs.Ytjohcjfmlhihbaa.P
open Go Go.RowKit Go.Proofs.Ytjohcjfmlhihbaa.G
open Go.Proofs.YtjohcjfmlhihbaaW.PrintWords Go.Proofs.YtjohcjfmlhihbaaW.PrintMore
theorem awake_now:numnahlaw07_awake.f 60 = some true:=by kernel_rfl
theorem ev_awake:Ev (fun k=>numnahlaw07_awake.f k) true:=Ev.of (fun k=>numnahlaw07_awake.mono k) awake_now
end Go.Proofs.Ytjohcjfmlhihbaa.P
