/- Several texts, joined. -/
import Derived.WalkKit
import Derived.KernelRfl
import Derived.Below
import Derived.Deep.Draws
import Derived.Deep.AppendLies
import Derived.Maps.AppendAt
import Derived.OwnWalk
import Derived.Laws.BytesArg
import Derived.Laws.MakeOwn
import Derived.Laws.OwnMore
import Derived.Deep.OwnRows
import Derived.Tactics
import Derived.Lib.ConvBytes
import Derived.Laws.Slices
import Derived.RowKit3
import Derived.Deep.LoopGhost
import Derived.Deep.QuietTactic
import Derived.BigQuiet
import Derived.WideLaws
import Derived.Deep.DeepCutAuto
import Derived.Deep.CutBlock
import Derived.Deep.RegionHeld3
import Derived.Laws.Rows
import Derived.Lib.AppendStr
import Derived.ArgAppend
import Derived.Laws.IdiomCopy
import Derived.OrdersHeld
import Derived.Laws.BitsLemmas
import Derived.RowKit
import Derived.Lib.Hide
import Derived.WalkSpells
import Derived.WalkLawsBesides
import Derived.Deep.DeepFit
import Derived.OwnWalkIn
import Derived.TacticsInMore
import Derived.LoopNIn
import Derived.LoopIn
import Derived.Sort.QuietIn
import Derived.Sort.BigQuietIn
import Derived.Sort.QuietTacIn
import Derived.Sort.LoopGhostIn
import Derived.Stop.RegionWithIn
import Derived.Maps.OwnIn
import Derived.Shelf.Abstract
import Derived.Shelf.RegionOpen
import Derived.RangeFuncRecord
import Derived.Test.YtjohcjfmlhihbaaProg
import Derived.Test.YtjohcjfmlhihbaaQA1
set_option linter.unusedVariables false
set_option linter.unusedSimpArgs false
namespace Go.Proofs.Ytjohcjfmlhihbaa.G
open Go
theorem fld23_0 (x y:Value) (w:World):(Instr.field 23 (.agg #[x,y]) 0).run Try.prog w = .ok x w:=by kernel_rfl
theorem fld23_1 (x y:Value) (w:World):(Instr.field 23 (.agg #[x,y]) 1).run Try.prog w = .ok y w:=by kernel_rfl
theorem fld45_0 (x y:Value) (w:World):(Instr.field 45 (.agg #[x,y]) 0).run Try.prog w = .ok x w:=by kernel_rfl
theorem fld45_1 (x y:Value) (w:World):(Instr.field 45 (.agg #[x,y]) 1).run Try.prog w = .ok y w:=by kernel_rfl
theorem fld109_0 (x y:Value) (w:World):(Instr.field 109 (.agg #[x,y]) 0).run Try.prog w = .ok x w:=by kernel_rfl
theorem fld109_1 (x y:Value) (w:World):(Instr.field 109 (.agg #[x,y]) 1).run Try.prog w = .ok y w:=by kernel_rfl
theorem fld94_0 (x y:Value) (w:World):(Instr.field 94 (.agg #[x,y]) 0).run Try.prog w = .ok x w:=by kernel_rfl
theorem fld94_1 (x y:Value) (w:World):(Instr.field 94 (.agg #[x,y]) 1).run Try.prog w = .ok y w:=by kernel_rfl
end Go.Proofs.Ytjohcjfmlhihbaa.G
namespace Go.Proofs.Ytjohcjfmlhihbaa.G
open Go.RowKit Go.Proofs.YtjohcjfmlhihbaaW.PrintWords Go.Proofs.YtjohcjfmlhihbaaW.PrintLast Go.Proofs.YtjohcjfmlhihbaaW.PrintMore
attribute [local go_sem] fld23_0 fld23_1 fld45_0 fld45_1 fld109_0 fld109_1 fld94_0 fld94_1 max2_int min2_int max_two min_two max_three min_three max_four min_four   -- for this text's walks alone
set_option linter.unusedVariables false
set_option linter.unusedSimpArgs false
def errW:Option Int → Value
 | none=>.nilIface
 | some c=>.iface 0 (.int .i64 c)
theorem errW_none:errW none = .nilIface:=rfl
theorem errW_some (c:Int):errW (some c) = .iface 0 (.int .i64 c):=rfl
theorem info3:(Try.prog.info? 3).map (fun i=>(i.zero,i.size,i.bytes)) = some (some (.int .i64 0),1,8):=by kernel_rfl
theorem info4:(Try.prog.info? 4).map (fun i=>(i.zero,i.size,i.bytes)) = some (some (.bool false),1,1):=by kernel_rfl
theorem info23:(Try.prog.info? 23).map (fun i=>(i.zero,i.size,i.bytes)) = some (some (.agg #[(.int .i64 0),(.int .i64 0)]),2,16):=by kernel_rfl
structure S23 where
 f0:Int
 f1:Int
def z23:S23:=⟨(0:Int),(0:Int)⟩
def k23:Kd S23:=Kd.iso (Kd.pair (Kd.int .i64) (Kd.int .i64)) (fun x:S23=>(x.f0,x.f1))
theorem k23_heap:Kd.Heap k23:=Kd.heap_iso _ (Kd.heap_pair (Kd.heap_int .i64) (Kd.heap_int .i64))
theorem k23_open {w:World} {x:S23} {cs:List Value} (h:k23.K w x cs):cs = [.int .i64 x.f0,.int .i64 x.f1]:=by
 obtain ⟨_,_,rfl,rfl,rfl⟩:=h
 exact rfl
theorem k23_openM {w:World} {base:Nat} {ok:Nat → Prop} {x:S23} {cs:List Value} (h:k23.M w base ok x cs):cs = [.int .i64 x.f0,.int .i64 x.f1]:=by
 obtain ⟨_,_,rfl,rfl,rfl⟩:=h
 exact rfl
theorem k23_mk (w:World) (x:S23)  : k23.K w x [.int .i64 x.f0,.int .i64 x.f1]:=⟨[.int .i64 x.f0],[.int .i64 x.f1],rfl,rfl,rfl⟩
theorem k23_mkM (w:World) (base:Nat) (ok:Nat → Prop) (x:S23)  : k23.M w base ok x [.int .i64 x.f0,.int .i64 x.f1]:=⟨[.int .i64 x.f0],[.int .i64 x.f1],rfl,rfl,rfl⟩
def rd_T23 (xs:List S23) (i:Int):S23:=xs.getD i.toNat z23
theorem at_T23 {w:World} {A:Option Addr} {n:Nat} {xs:List S23} (h:Kd.C k23 w A n xs) (i:Int) (h0:0 ≤ i) (h1:i < n):∃ ad , A = some ad ∧ w.cell? (ad.add (i.toNat * 2)) = some (.int .i64 (rd_T23 xs i).f0) ∧ w.cell? ⟨(ad.add (i.toNat * 2)).block,(ad.add (i.toNat * 2)).off + 1,none⟩ = some (.int .i64 (rd_T23 xs i).f1):=by
 obtain ⟨ad,c,e,_,hK,hc0⟩:=Kd.C_get h z23 i h0 h1
 have hc:∀ j u,c[j]? = some u → w.cell? (ad.add (i.toNat * 2 + j)) = some u:=hc0
 obtain rfl:=k23_open hK
 exact ⟨ad,e,hc 0 _ rfl,by rw [← add_field _ _ 1 (by omega)];exact hc 1 _ rfl⟩
structure S45 where
 f0:Int
 f1:(List Int)
def z45:S45:=⟨(0:Int),([]:List Int)⟩
def k45:Kd S45:=Kd.iso (Kd.pair (Kd.int .i64) (Kd.slice 3 (Kd.int .i64))) (fun x:S45=>(x.f0,x.f1))
theorem k45_open {w:World} {x:S45} {cs:List Value} (h:k45.K w x cs):∃ A1 c1,cs = [.int .i64 x.f0,.slice A1 x.f1.length c1] ∧ x.f1.length ≤ c1 ∧ (Kd.int .i64).C w A1 x.f1.length x.f1:=by
 obtain ⟨_,_,rfl,rfl,⟨A1,c1,rfl,l1,g1⟩⟩:=h
 exact ⟨A1,c1,rfl,l1,g1⟩
theorem k45_mk (w:World) (x:S45) {A1:Option Addr} {c1:Nat} (l1:x.f1.length ≤ c1) (g1:(Kd.int .i64).C w A1 x.f1.length x.f1):k45.K w x [.int .i64 x.f0,.slice A1 x.f1.length c1]:=⟨[.int .i64 x.f0],[.slice A1 x.f1.length c1],rfl,rfl,⟨A1,c1,rfl,l1,g1⟩⟩
theorem k45_mkF (W:World) (ok:Nat → Prop) (x:S45) {A1:Option Addr} {c1:Nat} (l1:x.f1.length ≤ c1) (g1:Kd.F (Kd.int .i64) W ok A1 x.f1.length x.f1):Kd.FK k45 W ok x [.int .i64 x.f0,.slice A1 x.f1.length c1]:=fun W2 hW=>k45_mk W2 x l1 (g1 W2 hW)
def rd_T45 (xs:List S45) (i:Int):S45:=xs.getD i.toNat z45
theorem at_T45 {w:World} {A:Option Addr} {n:Nat} {xs:List S45} (h:Kd.C k45 w A n xs) (i:Int) (h0:0 ≤ i) (h1:i < n):∃ ad A1 c1,A = some ad ∧ w.cell? (ad.add (i.toNat * 2)) = some (.int .i64 (rd_T45 xs i).f0) ∧ w.cell? ⟨(ad.add (i.toNat * 2)).block,(ad.add (i.toNat * 2)).off + 1,none⟩ = some (.slice A1 (rd_T45 xs i).f1.length c1) ∧ (rd_T45 xs i).f1.length ≤ c1 ∧ (Kd.int .i64).C w A1 (rd_T45 xs i).f1.length (rd_T45 xs i).f1:=by
 obtain ⟨ad,c,e,_,hK,hc0⟩:=Kd.C_get h z45 i h0 h1
 have hc:∀ j u,c[j]? = some u → w.cell? (ad.add (i.toNat * 2 + j)) = some u:=hc0
 obtain ⟨A1,c1,rfl,l1,g1⟩:=k45_open hK
 exact ⟨ad,A1,c1,e,hc 0 _ rfl,by rw [← add_field _ _ 1 (by omega)];exact hc 1 _ rfl,l1,g1⟩
end Go.Proofs.Ytjohcjfmlhihbaa.G
namespace Go.Proofs.Ytjohcjfmlhihbaa.G
open Go Go.RowKit Go.Proofs.YtjohcjfmlhihbaaW.PrintWords Go.Proofs.YtjohcjfmlhihbaaW.PrintLast
/-- A row of n Booleans,as the digits of a number. -/
def ba (n m:Nat):Array Bool:=((List.range n).map fun i=>m.testBit i).toArray
theorem pu0 (a:Act) (d:Tmp) (v:Value):Act.put a (some d) v = { a with tmps:=a.tmps.setIfInBounds d v }:=rfl
theorem la {α:Type} {l:List α} {i:Nat} {a:α}:l.toArray.setIfInBounds i a = (l.set i a).toArray:=List.setIfInBounds_toArray ..
theorem lb {α:Type} {x:α} {xs:List α} {a:α}:(x :: xs).set 0 a = a :: xs:=List.set_cons_zero
theorem lc {α:Type} {x:α} {xs:List α} {i:Nat} {a:α}:(x :: xs).set (i + 1) a = x :: xs.set i a:=List.set_cons_succ
theorem A_ {p:Prop} (h:p):Aside0 p:=⟨h⟩
end Go.Proofs.Ytjohcjfmlhihbaa.G
namespace Go.Proofs.Ytjohcjfmlhihbaa.G
open Go Go.RowKit Go.Proofs.YtjohcjfmlhihbaaW.PrintWords Go.Proofs.YtjohcjfmlhihbaaW.PrintLast Go.Proofs.YtjohcjfmlhihbaaW.PrintMore
theorem gd {α:Type} {c:Prop} [Decidable c] {e:Option α} {r:α} (H:(if c then e else none) = some r):c ∧ e = some r:=by by_cases h:c <;> simp_all
theorem ge {α:Type} {c:Prop} [Decidable c] {e:Option α} {r:α} (H:(if c then none else e) = some r):¬ c ∧ e = some r:=by by_cases h:c <;> simp_all
section
variable {α:Type} {d:Kd α} {e base n i:Nat} {ok:Nat → Prop} {w W W' w2:World} {v:Value} {xs:List α} {A:Option Addr} {g g':Nat} {o:Obj} {t:TypeId} {cs:Array Value} {x:Value}
theorem bl (h:Aside0 (Below w.heap.size w W)) (s:Below w.heap.size w W → Below w.heap.size w W':=by intro h_;repeat (first | (with_reducible first | exact h_ | apply below_alloc | apply pw_below_drewN | apply below_drew1 | refine below_set ?_ (Aside0.out (by assumption))) | exact h_)):Below w.heap.size w W':=s h.out
theorem bB (h:Aside0 (Below w.heap.size w W)) (hb:Below W'.heap.size W' w2) (s:Below w.heap.size w W → Below w.heap.size w W':=by intro h_;repeat (first | (with_reducible first | exact h_ | apply below_alloc | apply pw_below_drewN | apply below_drew1 | refine below_set ?_ (Aside0.out (by assumption))) | exact h_)):Aside0 (Below w.heap.size w w2):=⟨below_step (s h.out) hb⟩
theorem gw (hg:g = W'.heap.size) (h:Aside0 (Below w.heap.size w W)) (s:Below w.heap.size w W → Below w.heap.size w W':=by intro h_;repeat (first | (with_reducible first | exact h_ | apply below_alloc | apply pw_below_drewN | apply below_drew1 | refine below_set ?_ (Aside0.out (by assumption))) | exact h_)):Aside0 (w.heap.size ≤ g):=⟨hg ▸ below_size (s h.out)⟩
theorem kB (h:Aside0 (W.heap[g]? = some o)) (hb:Below W'.heap.size W' w2) (s:W.heap[g]? = some o → W'.heap[g]? = some o:=by intro h_;repeat (first | (with_reducible first | exact h_ | refine blk_drewN ?_ _ | refine blk_drew ?_ | refine blk_alloc ?_ _ | refine blk_far ?_ (Aside0.out (by assumption)) _) | exact h_)):Aside0 (w2.heap[g]? = some o):=⟨blk_below (s h.out) hb⟩
theorem nl (hg:g' = W'.heap.size) (h:Aside0 (W.heap[g]? = some o)) (s:W.heap[g]? = some o → W'.heap[g]? = some o:=by intro h_;repeat (first | (with_reducible first | exact h_ | refine blk_drewN ?_ _ | refine blk_drew ?_ | refine blk_alloc ?_ _ | refine blk_far ?_ (Aside0.out (by assumption)) _) | exact h_)):Aside0 (g ≠ g'):=⟨by rw [hg];exact Nat.ne_of_lt (blk_lt (s h.out))⟩
theorem ng (hg:g' = W'.heap.size) (h:Aside0 (W.heap[g]? = some o)) (s:W.heap[g]? = some o → W'.heap[g]? = some o:=by intro h_;repeat (first | (with_reducible first | exact h_ | refine blk_drewN ?_ _ | refine blk_drew ?_ | refine blk_alloc ?_ _ | refine blk_far ?_ (Aside0.out (by assumption)) _) | exact h_)):Aside0 (g' ≠ g):=⟨by rw [hg];exact Nat.ne_of_gt (blk_lt (s h.out))⟩
theorem rB (h:Aside0 (d.R e W base ok v xs)) (hb:Below W'.heap.size W' w2) (s:d.R e W base ok v xs → d.R e W' base ok v xs:=by intro h_;(with_reducible repeat (first | apply Kd.R_alloc | apply Kd.R_drewN | apply Kd.R_drew));exact h_):Aside0 (d.R e w2 base ok v xs):=⟨Kd.R_below (s h.out) hb⟩
theorem nB (h:Aside0 (Kd.N d e W base ok v xs)) (hb:Below W'.heap.size W' w2) (s:Kd.N d e W base ok v xs → Kd.N d e W' base ok v xs:=by intro h_;(with_reducible repeat (first | apply Kd.N_alloc | apply Kd.N_drewN | apply Kd.N_drew));exact h_):Aside0 (Kd.N d e w2 base ok v xs):=⟨Kd.N_below (s h.out) hb⟩
theorem rs (h:Aside0 (d.R e W base ok v xs)) (s:d.R e W base ok v xs → d.R e W' base ok v xs:=by intro h_;(with_reducible repeat (first | apply Kd.R_alloc | apply Kd.R_drewN | apply Kd.R_drew));exact h_):d.R e W' base ok v xs:=s h.out
theorem ns (h:Aside0 (Kd.N d e W base ok v xs)) (s:Kd.N d e W base ok v xs → Kd.N d e W' base ok v xs:=by intro h_;(with_reducible repeat (first | apply Kd.N_alloc | apply Kd.N_drewN | apply Kd.N_drew));exact h_):Kd.N d e W' base ok v xs:=s h.out
theorem cB (h:Aside0 (d.C w A n xs)) (hb:Aside0 (Below w.heap.size w W)) (s:d.C W A n xs → d.C W' A n xs:=by intro h_;repeat (first | exact h_ | (with_reducible refine Kd.C_alloc ?_ _) | (with_reducible refine Kd.C_drewN ?_ _) | (with_reducible refine Kd.C_drew ?_))):d.C W' A n xs:=s (Kd.C_below h.out hb.out)
theorem kD (h:Aside0 (W.heap[g]? = some o)):Aside0 (W.drew.heap[g]? = some o):=⟨blk_drew h.out⟩
theorem rD (h:Aside0 (d.R e W base ok v xs)):Aside0 (d.R e W.drew base ok v xs):=⟨Kd.R_drew h.out⟩
theorem nD (h:Aside0 (Kd.N d e W base ok v xs)):Aside0 (Kd.N d e W.drew base ok v xs):=⟨Kd.N_drew h.out⟩
theorem bD (h:Aside0 (Below n w W)):Aside0 (Below n w W.drew):=⟨below_drew1 h.out⟩
theorem kb (h:Aside0 (W.heap[g]? = some o)) (s:W.heap[g]? = some o → W'.heap[g]? = some o:=by intro h_;repeat (first | (with_reducible first | exact h_ | refine blk_drewN ?_ _ | refine blk_drew ?_ | refine blk_alloc ?_ _ | refine blk_far ?_ (Aside0.out (by assumption)) _) | exact h_)):W'.heap[g]? = some o:=s h.out
theorem cz (h:Aside0 (W.heap[g]? = some (.cells cs t (0,0)))) (i:Nat) (e_:cs[i]? = some x:=by rfl):W.cell? ⟨g,i,none⟩ = some x:=(blk_cell h.out i).trans e_
end
section
variable {P:Program} {ops:Array Oper} {Q:Exit → Act → World → Prop} {md:Region.Mode} {S:World → Prop} {ds:List Nat} {T:Bool × List (List Nat × List Nat)} {B:List Nat} {oi:Oper} {v:Value} {fuel n m:Nat} {a a':Act} {w:World}
theorem pq (i:Nat) (N:Tmp) (m':Nat) (HT:Aside0 (rtab md ops = T)) (h:wpAnyLast P md ops Q S ds fuel (ba n m') a' w) (hi:ops[i]? = some oi:=by rfl) (hN:oi.dst = some N:=by rfl) (hc:anyT T (ba n m).toList (ba n m').toList i = true:=by kernel_rfl)
    (hQ:∀ c a w,Q (.panic c) (a.put oi.dst v) w → Q (.panic c) a w:=by exact fun _ _ _ h=>h) (hy:Yields P ops oi v a:=by refine Or.inl ⟨by rfl,?_⟩;intro w';go_simp;with_reducible rfl) (ha:a.put (some N) v = a':=by simp only [pu0,la,lb,lc,i64_w,i32_w];rfl) :
    wpAnyLast P md ops Q S ds (fuel + 1) (ba n m) a w:=pure_ _ hi hN (any_of HT.out hc) hQ hy ha h
theorem pu (i:Nat) (N:Tmp) (m':Nat) (HT:Aside0 (rtab md ops = T)) (h:wpAnyLast P md ops Q S ds fuel (ba n m') a' w) (hi:ops[i]? = some oi:=by rfl) (hN:oi.dst = some N:=by rfl) (hc:anyT T (ba n m).toList (ba n m').toList i = true:=by kernel_rfl)
    (hQ:∀ c a w,Q (.panic c) (a.put oi.dst undef) w → Q (.panic c) a w:=by exact fun _ _ _ h=>h) (hy:Yields P ops oi undef a:=by exact Or.inr ⟨by rfl,rfl⟩) (ha:a.put (some N) undef = a':=by simp only [pu0,la,lb,lc,i64_w,i32_w];rfl) :
    wpAnyLast P md ops Q S ds (fuel + 1) (ba n m) a w:=pure_ _ hi hN (any_of HT.out hc) hQ hy ha h
theorem pr (i:Nat) (N:Tmp) (m':Nat) (h:wpAnyLast P md ops Q S ds fuel (ba n m') a' w) (hi:ops[i]? = some oi:=by rfl) (hN:oi.dst = some N:=by rfl) (hc:anyB md ops (ba n m) (ba n m') i = true:=by kernel_rfl)
    (hQ:∀ c a w,Q (.panic c) (a.put oi.dst v) w → Q (.panic c) a w:=by exact fun _ _ _ h=>h) (hy:Yields P ops oi v a:=by refine Or.inl ⟨by rfl,?_⟩;intro w';go_simp;with_reducible rfl) (ha:a.put (some N) v = a':=by simp only [pu0,la,lb,lc,i64_w,i32_w];rfl) :
    wpAnyLast P md ops Q S ds (fuel + 1) (ba n m) a w:=pure_ _ hi hN hc hQ hy ha h
theorem pv (i:Nat) (N:Tmp) (m':Nat) (h:wpAnyLast P md ops Q S ds fuel (ba n m') a' w) (hi:ops[i]? = some oi:=by rfl) (hN:oi.dst = some N:=by rfl) (hc:anyB md ops (ba n m) (ba n m') i = true:=by kernel_rfl)
    (hQ:∀ c a w,Q (.panic c) (a.put oi.dst undef) w → Q (.panic c) a w:=by exact fun _ _ _ h=>h) (hy:Yields P ops oi undef a:=by exact Or.inr ⟨by rfl,rfl⟩) (ha:a.put (some N) undef = a':=by simp only [pu0,la,lb,lc,i64_w,i32_w];rfl) :
    wpAnyLast P md ops Q S ds (fuel + 1) (ba n m) a w:=pure_ _ hi hN hc hQ hy ha h
theorem tq (i:Nat) (N:Tmp) (m':Nat) (HT:Aside0 (rtab md ops = T)) (HW:Aside0 (waitsOk T.2 B = true)) (hS:S w) (h:wpAnyLast P md ops Q S ds fuel (ba n m') a' w) (hi:ops[i]? = some oi:=by rfl) (hN:oi.dst = some N:=by rfl) (hc:takeW T B ds (ba n m).toList (ba n m').toList i = true:=by kernel_rfl)
    (hQ:∀ c a w,Q (.panic c) (a.put oi.dst v) w → Q (.panic c) a w:=by exact fun _ _ _ h=>h) (hy:YieldsIf P ops S oi v a:=by refine Or.inl ⟨by rfl,?_⟩;intro w' hs_;repeat (obtain ⟨_,hs_⟩:=(id hs_:_ ∧ _));go_simp;with_reducible rfl) (ha:a.put (some N) v = a':=by simp only [pu0,la,lb,lc,i64_w,i32_w];rfl) :
    wpAnyLast P md ops Q S ds (fuel + 1) (ba n m) a w:=take_ _ hi hN (take_ofW HT.out HW.out hc) hQ hy hS ha h
theorem tr (i:Nat) (N:Tmp) (m':Nat) (hS:S w) (h:wpAnyLast P md ops Q S ds fuel (ba n m') a' w) (hi:ops[i]? = some oi:=by rfl) (hN:oi.dst = some N:=by rfl) (hc:takeB md ops ds (ba n m) (ba n m') i = true:=by kernel_rfl)
    (hQ:∀ c a w,Q (.panic c) (a.put oi.dst v) w → Q (.panic c) a w:=by exact fun _ _ _ h=>h) (hy:YieldsIf P ops S oi v a:=by refine Or.inl ⟨by rfl,?_⟩;intro w' hs_;repeat (obtain ⟨_,hs_⟩:=(id hs_:_ ∧ _));go_simp;with_reducible rfl) (ha:a.put (some N) v = a':=by simp only [pu0,la,lb,lc,i64_w,i32_w];rfl) :
    wpAnyLast P md ops Q S ds (fuel + 1) (ba n m) a w:=take_ _ hi hN hc hQ hy hS ha h
theorem nq {l:Array Bool} (N:Tmp) (h:wpAnyLast P md ops Q S ds fuel l a' w) (ha:a.put (some N) v = a':=by simp only [pu0,la,lb,lc,i64_w,i32_w];rfl):wpAnyLast P md ops Q S ds fuel l (a.put (some N) v) w:=norm_ ha h
theorem oq (i:Nat) (N:Tmp) (m':Nat) (HT:Aside0 (rtab md ops = T))
    (h:∀ K:Act → World → Prop,Shut (∀ a' w',S w' → (S w' → wpAnyLast P md ops Q S ds fuel (ba n m') a' w') → K a' w') → if Region.wanted oi (yielded ops a.tmps) = true then Oper.wp P oi a w K Q else K (a.put (some N) undef) w)
    (hi:ops[i]? = some oi:=by rfl) (hN:oi.dst = some N:=by rfl) (hc:(readyT T.2 (ba n m).toList == [i] && (ba n m).toList.set i true == (ba n m').toList) = true:=by kernel_rfl) (hd:i ∉ ds:=by decide):wpAnyLast P md ops Q S ds (fuel + 1) (ba n m) a w :=
  one_ _ hi hN (one_of HT.out hc) hd h
theorem os (i:Nat) (N:Tmp) (m':Nat)
    (h:∀ K:Act → World → Prop,Shut (∀ a' w',S w' → (S w' → wpAnyLast P md ops Q S ds fuel (ba n m') a' w') → K a' w') → if Region.wanted oi (yielded ops a.tmps) = true then Oper.wp P oi a w K Q else K (a.put (some N) undef) w)
    (hi:ops[i]? = some oi:=by rfl) (hN:oi.dst = some N:=by rfl) (hc:readyB md ops (ba n m) (ba n m') i = true:=by kernel_rfl) (hd:i ∉ ds:=by decide):wpAnyLast P md ops Q S ds (fuel + 1) (ba n m) a w :=
  one_ _ hi hN hc hd h
end
theorem hz {S:World → Prop} {X K:Act → World → Prop} {a':Act} {w':World} (hK:Shut (∀ a w,S w → (S w → X a w) → K a w)) (h:S w' → X a' w') (hs:S w':=by first | exact trivial | (and_intros <;> first | assumption | exact cz (by assumption) _) | exact cz (by assumption) _):K a' w':=hK.out _ _ hs h
section
variable {P:Program} {ops:Array Oper} {Q:Exit → Act → World → Prop} {T:Bool × List (List Nat × List Nat)} {B:List Nat} {a:Act} {w:World} {f:FuncId} {as_:Array Operand} {ts:Array TypeId} {rest:List Oper} {o:Oper}
theorem st {id:Nat} (n:Nat) (S:World → Prop) (ds:List Nat) (hT:rtab .any ops = T) (hB:waitsOk T.2 B = true) (h:S w.drew → Aside0 (rtab .any ops = T) → Aside0 (waitsOk T.2 B = true) → wpAnyLast P .any ops Q S ds n (ba n 0) a w.drew)
    (hm:P.follows .mixedOrders = true:=by kernel_rfl) (hn:ops.size = n:=by rfl) (hl:Array.replicate n false = ba n 0:=by rfl) (hS:S w.drew:=by first | exact trivial | (and_intros <;> first | assumption | exact cz (by assumption) _) | exact cz (by assumption) _):(Code.region id ops true).wp P Q a w :=
  start_ (ba n 0) hm hn hl hS fun hs=>h hs ⟨hT⟩ ⟨hB⟩
theorem bx (N:Tmp) (cs:Array Value) (t:TypeId) (h:∀ g,g = w.heap.size → ∀ w1,w1.heap[g]? = some (.cells cs t (0,0)) → Below w.heap.size w w1 → wpList P ops Q rest (a.put o.dst (.pointer (some ⟨g,0,none⟩))) w1) (hd:o.dst = some N:=by rfl) (hg:o.guard = none:=by rfl)
    (hr:(execOp a.eval o).run P w = .ok (.value (.pointer (some ⟨w.heap.size,0,none⟩))) (w.alloc (.cells cs t (0,0))):=by first | (go_simp;done) | (go_simp;rfl)):wpList P ops Q (o :: rest) a w:=box_event hg hd hr h
theorem gL (N:Option Tmp) {fn:Func} (hf:P.funcs[f]? = some fn) (args:Array Value) (h:Calls P f args w fun e w'=>∃ v,e = .returned v ∧ wpList P ops Q rest (a.put N v) w') (hd:o.dst = N:=by rfl) (hg:o.guard = none:=by rfl)
    (hop:o.op = .call { callee:=.value (.func f),args:=as_,argTypes:=ts }:=by rfl) (hname:(fn.name == "runtime.NumGoroutine") = false:=by kernel_rfl) (hb:fn.body.isSome = true:=by rfl) (hargs:as_.map a.eval = args:=by (try simp only [List.map_toArray,List.map_cons,List.map_nil]);first | done | rfl | (simp only [List.length_drop,List.length_take];rfl)) :
    wpList P ops Q (o :: rest) a w:=goesL_ N hd hg hf hname hb args hop hargs h
end
section
variable {P:Program} {ops:Array Oper} {Q:Exit → Act → World → Prop} {oi:Oper} {N:Option Tmp} {a:Act} {w:World} {K:Act → World → Prop} {f:FuncId} {as_:Array Operand} {ts:Array TypeId}
theorem gq {fn:Func} (hf:P.funcs[f]? = some fn) (args:Array Value) (h:Calls P f args w fun e w'=>∃ v,e = .returned v ∧ K (a.put N v) w') (hw:Region.wanted oi (yielded ops a.tmps) = true:=by rfl)
    (hN:oi.dst = N:=by rfl) (hop:oi.op = .call { callee:=.value (.func f),args:=as_,argTypes:=ts }:=by rfl) (hname:(fn.name == "runtime.NumGoroutine") = false:=by kernel_rfl) (hb:fn.body.isSome = true:=by rfl) (hargs:as_.map a.eval = args:=by (try simp only [List.map_toArray,List.map_cons,List.map_nil]);first | done | rfl | (simp only [List.length_drop,List.length_take];rfl)) :
    if Region.wanted oi (yielded ops a.tmps) = true then Oper.wp P oi a w K Q else K (a.put N undef) w:=goes_ hf hname hb args hw hN hop hargs h
end
end Go.Proofs.Ytjohcjfmlhihbaa.G
namespace Go.Proofs.Ytjohcjfmlhihbaa.G
open Go.RowKit Go.Proofs.YtjohcjfmlhihbaaW.PrintWords Go.Proofs.YtjohcjfmlhihbaaW.PrintLast Go.Proofs.YtjohcjfmlhihbaaW.PrintMore
set_option maxHeartbeats 8000000
set_option maxRecDepth 100000
attribute [local go_sem] cond_true cond_false fld23_0 fld23_1 fld45_0 fld45_1 fld109_0 fld109_1 fld94_0 fld94_1 max2_int min2_int max_two min_two max_three min_three max_four min_four   -- for this text's walks alone
def shares_within.f (a0:Int) (a1:Int) (a2:Int):Option (Bool):=if a0 ≥ a1 then (some (decide (a0 ≤ a2))) else (some false)
theorem shares_within.calls (a0:Int) (a1:Int) (a2:Int) (r:Bool) (w:World) (h:shares_within.f a0 a1 a2 = some r) :
  Calls Try.prog 92 #[.int .i64 a0,.int .i64 a1,.int .i64 a2] w fun e w'=>e = .returned (.bool r) ∧ Drawn0 w w':=by
 have H:(if a0 ≥ a1 then (some (decide (a0 ≤ a2))) else (some false)) = some r:=h
 clear h
 by_cases c4:a0 ≥ a1
 ·rw [if_pos c4] at H
  have c4b0:decide (a1 ≤ a0) = true:=decide_eq_true c4
  clear c4
  obtain rfl:=Option.some.inj H
  go_enter Try.func92,Try.ntmps92
  go_wp2
  go_ret
  exact ⟨by first | rfl | (simp;done) | (simp [*];done),by repeat (first | exact Drawn0.refl _ | apply Drawn0.step)⟩
 rw [if_neg c4] at H
 have c4b0:decide (a1 ≤ a0) = false:=decide_eq_false c4
 clear c4
 obtain rfl:=Option.some.inj H
 go_enter Try.func92,Try.ntmps92
 go_wp2
 go_ret
 exact ⟨by first | rfl | (simp;done) | (simp [*];done),by repeat (first | exact Drawn0.refl _ | apply Drawn0.step)⟩
end Go.Proofs.Ytjohcjfmlhihbaa.G
namespace Go.Proofs.Ytjohcjfmlhihbaa.H
open Go Go.RowKit Go.Shelf Go.Proofs.Ytjohcjfmlhihbaa.G Go.Proofs.YtjohcjfmlhihbaaW.PrintWords
def inI (n:Int):Prop:=-9223372036854775808 ≤ n ∧ n ≤ 9223372036854775807
instance (n:Int):Decidable (inI n):=by unfold inI;exact inferInstance
def fitL {α:Type} (l:List α):Prop:=l.length ≤ 9223372036854775807
instance {α:Type} (l:List α):Decidable (fitL l):=by unfold fitL;exact inferInstance
theorem wide_fn (f:FuncId):Fence.wide.fn f = True:=rfl
theorem lay1 (w:World) (o0:Obj):(w.alloc o0).heap[w.heap.size]? = some o0 ∧ (w.alloc o0).heap.size = w.heap.size + 1 ∧ Below w.heap.size w (w.alloc o0) :=
 ⟨World.alloc_heap_new _ _,World.size_alloc _ _,(Below.refl _ _).alloc (Nat.le_refl _) _⟩
end Go.Proofs.Ytjohcjfmlhihbaa.H
namespace Go.Proofs.Ytjohcjfmlhihbaa.H
open Go Go.RowKit Go.Shelf Go.Proofs.Ytjohcjfmlhihbaa.G Go.Proofs.YtjohcjfmlhihbaaW.PrintWords
attribute [local go_sem] Oper.semAt_some wide_fn
theorem within_val (a lo hi:Int) (w:World):Calls Try.prog 92 #[.int .i64 a,.int .i64 lo,.int .i64 hi] w fun e w'=>e = .returned (.bool (decide (lo ≤ a ∧ a ≤ hi))) ∧ Drawn0 w w':=by
 refine shares_within.calls a lo hi _ w ?_
 unfold shares_within.f
 by_cases h:a ≥ lo
 ·rw [if_pos h]
  congr 1
  rw [Bool.eq_iff_iff,decide_eq_true_iff,decide_eq_true_iff]
  exact ⟨fun k=>⟨h,k⟩,fun k=>k.2⟩
 ·rw [if_neg h]
  congr 1
  rw [eq_comm,decide_eq_false_iff_not]
  exact fun k=>h k.1
set_option maxHeartbeats 1000000 in
theorem c119_any (x:Int) (w:World):Calls Try.prog 119 #[.int .i64 x] w fun e w'=>e = .returned (.bool (!decide (0 ≤ x ∧ x ≤ 1000))) ∧ Below w.heap.size w w':=by
 refine (callsIn_wide (n:=9)).1 ?_
 refine callsIn_of_wp Try.func119 rfl trivial ?_
 simp only [Try.ntmps119,List.size_toArray,List.length_cons,List.length_nil,Nat.reduceAdd,Nat.reduceSub,Array.replicate_succ,Array.replicate_zero,List.push_toArray,List.append_toArray,List.nil_append,List.cons_append]
 gi_wp2_with fail
 refine (callsIn_wide.2 (within_val x 0 1000 w)).mono ?_
 rintro e w1 ⟨rfl,hd⟩
 have HB:=Lib.hid hd.below
 clear hd
 gi_wp2_with fail
 exact bodyPost_ret (v:=.bool (!decide (0 ≤ x) || !decide (x ≤ 1000))) (results_tmp (t:=2) rfl _ _ _) rfl ⟨by rw [Bool.decide_and,Bool.not_and],HB.out⟩
set_option maxHeartbeats 1000000 in
theorem c102_any (x:Int) (w:World):Calls Try.prog 102 #[.int .i64 x] w fun e w'=>e = .returned (.bool (!decide (0 ≤ x ∧ x ≤ 200))) ∧ Below w.heap.size w w':=by
 refine (callsIn_wide (n:=9)).1 ?_
 refine callsIn_of_wp Try.func102 rfl trivial ?_
 simp only [Try.ntmps102,List.size_toArray,List.length_cons,List.length_nil,Nat.reduceAdd,Nat.reduceSub,Array.replicate_succ,Array.replicate_zero,List.push_toArray,List.append_toArray,List.nil_append,List.cons_append]
 gi_wp2_with fail
 refine (callsIn_wide.2 (within_val x 0 200 w)).mono ?_
 rintro e w1 ⟨rfl,hd⟩
 have HB:=Lib.hid hd.below
 clear hd
 gi_wp2_with fail
 exact bodyPost_ret (v:=.bool (!decide (0 ≤ x) || !decide (x ≤ 200))) (results_tmp (t:=2) rfl _ _ _) rfl ⟨by rw [Bool.decide_and,Bool.not_and],HB.out⟩
set_option maxHeartbeats 4000000 in
set_option maxRecDepth 100000 in
theorem index119 (A:Option Addr) (c:Nat) (l:List Int) (w:World) (hl:Kd.C (Kd.int .i64) w A l.length l) (hlen:fitL l) :
  Calls Try.prog 109 #[.slice A l.length c,.func (.func 119) #[] #[]] w fun e w'=>∃ i:Int,e = .returned (.int .i64 i) ∧ decide (0 ≤ i) = l.any (fun x=>!decide (0 ≤ x ∧ x ≤ 1000)) ∧ Below w.heap.size w w':=by
 refine (callsIn_wide (n:=9)).1 ?_
 refine callsIn_of_wp Try.func109 rfl trivial ?_
 simp only [Try.ntmps109,List.size_toArray,List.length_cons,List.length_nil,Nat.reduceAdd,Nat.reduceSub,Array.replicate_succ,Array.replicate_zero,List.push_toArray,List.append_toArray,List.nil_append,List.cons_append]
 unfold fitL at hlen
 have HL:=Lib.hid hl
 clear hl
 gi_wp2_with fail
 gi_loopg [8] l.length (fun k s8 W=>∃ i:Nat,s8 = .int .i64 (i:Int) ∧ i ≤ l.length ∧ l.length ≤ k + i ∧ Below w.heap.size w W ∧ (l.take i).any (fun x=>!decide (0 ≤ x ∧ x ≤ 1000)) = false)
 case atStart=>exact ⟨0,rfl,by omega,by omega,Below.refl _ _,rfl⟩
 case round =>
  obtain ⟨i,rfl,hi,hk,hB,hany⟩:=hrel
  have HB:=Lib.hid hB
  have HA:=Lib.hid hany
  clear hB hany
  by_cases hil:i < l.length
  ·have hI0:(0:Int) ≤ (i:Int):=by omega
   have hI1:(i:Int) < (l.length:Int):=by omega
   obtain ⟨ad,e0,hx⟩:=Kd.at_int HL.out (i:Int) hI0 hI1
   cases e0
   rw [Int.toNat_natCast] at hx
   have hcell:=(HB.out.cell (World.block_lt_of_cell? w _ hx)).trans hx
   obtain ⟨x,hxe⟩:∃ x,rd l (i:Int) = x:=⟨_,rfl⟩
   rw [hxe] at hcell
   have hxi:l[i] = x:=by rw [← hxe];unfold rd;simp [hil]
   have HXE:=Lib.hid hxi
   clear hx hxe hxi
   gi_wp2_with fail
   refine (callsIn_wide.2 (c119_any x _)).mono ?_
   rintro e w1 ⟨rfl,hb1⟩
   have HB1:=Lib.hid hb1
   have hs:=HB.out.size
   obtain ⟨q,hq⟩:∃ q,(!decide (0 ≤ x ∧ x ≤ 1000)) = q:=⟨_,rfl⟩
   rw [hq]
   have HQ:=Lib.hid hq
   clear hb1 hq
   cases q with
   | true =>
    gi_wp2_with fail
    refine bodyPost_ret (v:=.int .i64 (i:Int)) (results_tmp (t:=4) rfl _ _ _) rfl ⟨i,rfl,?_,HB.out.trans (HB1.out.mono hs)⟩
    have:l.any (fun x=>!decide (0 ≤ x ∧ x ≤ 1000)) = true:=List.any_eq_true.2 ⟨x,by rw [← HXE.out];exact List.getElem_mem hil,HQ.out⟩
    rw [this];simp
   | false =>
    gi_wp2_with fail
    gi_roundg (l.length - (i + 1))
    case measure=>omega
    case rel =>
     refine ⟨i + 1,by simp,by omega,by omega,HB.out.trans (HB1.out.mono hs),?_⟩
     rw [List.take_succ_eq_append_getElem hil,List.any_append,HA.out,HXE.out]
     simp only [List.any_cons,List.any_nil,Bool.or_false,Bool.false_or]
     exact HQ.out
  ·have:i = l.length:=by omega
   subst this
   gi_wp2_with fail
   refine bodyPost_ret (v:=.int .i64 (-1)) (results_tmp (t:=4) rfl _ _ _) rfl ⟨-1,rfl,?_,HB.out⟩
   have:=HA.out
   rw [List.take_length] at this
   rw [this];simp
set_option maxHeartbeats 4000000 in
theorem contains119 (A:Option Addr) (c:Nat) (l:List Int) (w:World) (hl:Kd.C (Kd.int .i64) w A l.length l) (hlen:fitL l) :
  Calls Try.prog 80 #[.slice A l.length c,.func (.func 119) #[] #[]] w fun e w'=>e = .returned (.bool (l.any (fun x=>!decide (0 ≤ x ∧ x ≤ 1000)))) ∧ Below w.heap.size w w':=by
 refine (callsIn_wide (n:=9)).1 ?_
 refine callsIn_of_wp Try.func80 rfl trivial ?_
 simp only [Try.ntmps80,List.size_toArray,List.length_cons,List.length_nil,Nat.reduceAdd,Nat.reduceSub,Array.replicate_succ,Array.replicate_zero,List.push_toArray,List.append_toArray,List.nil_append,List.cons_append]
 have HI:=Lib.hid (index119 A c l w hl hlen)
 clear hl
 gi_wp2_with fail
 refine (callsIn_wide.2 HI.out).mono ?_
 rintro e w1 ⟨i,rfl,hd,hb1⟩
 have HD:=Lib.hid hd
 have HB1:=Lib.hid hb1
 clear hd hb1
 gi_wp2_with fail
 refine bodyPost_ret (v:=.bool (decide (0 ≤ i))) (results_tmp (t:=4) rfl _ _ _) rfl ⟨by rw [HD.out],HB1.out⟩
set_option maxHeartbeats 4000000 in
set_option maxRecDepth 100000 in
theorem index102 (A:Option Addr) (c:Nat) (l:List Int) (w:World) (hl:Kd.C (Kd.int .i64) w A l.length l) (hlen:fitL l) :
  Calls Try.prog 109 #[.slice A l.length c,.func (.func 102) #[] #[]] w fun e w'=>∃ i:Int,e = .returned (.int .i64 i) ∧ decide (0 ≤ i) = l.any (fun x=>!decide (0 ≤ x ∧ x ≤ 200)) ∧ Below w.heap.size w w':=by
 refine (callsIn_wide (n:=9)).1 ?_
 refine callsIn_of_wp Try.func109 rfl trivial ?_
 simp only [Try.ntmps109,List.size_toArray,List.length_cons,List.length_nil,Nat.reduceAdd,Nat.reduceSub,Array.replicate_succ,Array.replicate_zero,List.push_toArray,List.append_toArray,List.nil_append,List.cons_append]
 unfold fitL at hlen
 have HL:=Lib.hid hl
 clear hl
 gi_wp2_with fail
 gi_loopg [8] l.length (fun k s8 W=>∃ i:Nat,s8 = .int .i64 (i:Int) ∧ i ≤ l.length ∧ l.length ≤ k + i ∧ Below w.heap.size w W ∧ (l.take i).any (fun x=>!decide (0 ≤ x ∧ x ≤ 200)) = false)
 case atStart=>exact ⟨0,rfl,by omega,by omega,Below.refl _ _,rfl⟩
 case round =>
  obtain ⟨i,rfl,hi,hk,hB,hany⟩:=hrel
  have HB:=Lib.hid hB
  have HA:=Lib.hid hany
  clear hB hany
  by_cases hil:i < l.length
  ·have hI0:(0:Int) ≤ (i:Int):=by omega
   have hI1:(i:Int) < (l.length:Int):=by omega
   obtain ⟨ad,e0,hx⟩:=Kd.at_int HL.out (i:Int) hI0 hI1
   cases e0
   rw [Int.toNat_natCast] at hx
   have hcell:=(HB.out.cell (World.block_lt_of_cell? w _ hx)).trans hx
   obtain ⟨x,hxe⟩:∃ x,rd l (i:Int) = x:=⟨_,rfl⟩
   rw [hxe] at hcell
   have hxi:l[i] = x:=by rw [← hxe];unfold rd;simp [hil]
   have HXE:=Lib.hid hxi
   clear hx hxe hxi
   gi_wp2_with fail
   refine (callsIn_wide.2 (c102_any x _)).mono ?_
   rintro e w1 ⟨rfl,hb1⟩
   have HB1:=Lib.hid hb1
   have hs:=HB.out.size
   obtain ⟨q,hq⟩:∃ q,(!decide (0 ≤ x ∧ x ≤ 200)) = q:=⟨_,rfl⟩
   rw [hq]
   have HQ:=Lib.hid hq
   clear hb1 hq
   cases q with
   | true =>
    gi_wp2_with fail
    refine bodyPost_ret (v:=.int .i64 (i:Int)) (results_tmp (t:=4) rfl _ _ _) rfl ⟨i,rfl,?_,HB.out.trans (HB1.out.mono hs)⟩
    have:l.any (fun x=>!decide (0 ≤ x ∧ x ≤ 200)) = true:=List.any_eq_true.2 ⟨x,by rw [← HXE.out];exact List.getElem_mem hil,HQ.out⟩
    rw [this];simp
   | false =>
    gi_wp2_with fail
    gi_roundg (l.length - (i + 1))
    case measure=>omega
    case rel =>
     refine ⟨i + 1,by simp,by omega,by omega,HB.out.trans (HB1.out.mono hs),?_⟩
     rw [List.take_succ_eq_append_getElem hil,List.any_append,HA.out,HXE.out]
     simp only [List.any_cons,List.any_nil,Bool.or_false,Bool.false_or]
     exact HQ.out
  ·have:i = l.length:=by omega
   subst this
   gi_wp2_with fail
   refine bodyPost_ret (v:=.int .i64 (-1)) (results_tmp (t:=4) rfl _ _ _) rfl ⟨-1,rfl,?_,HB.out⟩
   have:=HA.out
   rw [List.take_length] at this
   rw [this];simp
set_option maxHeartbeats 4000000 in
theorem contains102 (A:Option Addr) (c:Nat) (l:List Int) (w:World) (hl:Kd.C (Kd.int .i64) w A l.length l) (hlen:fitL l) :
  Calls Try.prog 80 #[.slice A l.length c,.func (.func 102) #[] #[]] w fun e w'=>e = .returned (.bool (l.any (fun x=>!decide (0 ≤ x ∧ x ≤ 200)))) ∧ Below w.heap.size w w':=by
 refine (callsIn_wide (n:=9)).1 ?_
 refine callsIn_of_wp Try.func80 rfl trivial ?_
 simp only [Try.ntmps80,List.size_toArray,List.length_cons,List.length_nil,Nat.reduceAdd,Nat.reduceSub,Array.replicate_succ,Array.replicate_zero,List.push_toArray,List.append_toArray,List.nil_append,List.cons_append]
 have HI:=Lib.hid (index102 A c l w hl hlen)
 clear hl
 gi_wp2_with fail
 refine (callsIn_wide.2 HI.out).mono ?_
 rintro e w1 ⟨i,rfl,hd,hb1⟩
 have HD:=Lib.hid hd
 have HB1:=Lib.hid hb1
 clear hd hb1
 gi_wp2_with fail
 refine bodyPost_ret (v:=.bool (decide (0 ≤ i))) (results_tmp (t:=4) rfl _ _ _) rfl ⟨by rw [HD.out],HB1.out⟩
end Go.Proofs.Ytjohcjfmlhihbaa.H
namespace Go.Proofs.Ytjohcjfmlhihbaa.G
open Go Go.RowKit Go.Proofs.YtjohcjfmlhihbaaW.PrintWords
def contains119.f (l0:List Int):Option ((Bool)):=if H.fitL l0 then some (l0.any (fun x=>!decide (0 ≤ x ∧ x ≤ 1000))) else none
theorem contains119.calls (A0:Option Addr) (c0:Nat) (l0:List Int) (r:Bool) (w:World) (hr0:Kd.C (Kd.int .i64) w A0 l0.length l0) (_:l0.length ≤ c0) (h:contains119.f l0 = some r) :
  Calls Try.prog 80 #[.slice A0 l0.length c0,.func (.func 119) #[] #[]] w fun e w'=>e = .returned (.bool r) ∧ Below w.heap.size w w':=by
 unfold contains119.f at h
 by_cases hf:H.fitL l0
 case neg =>
  rw [if_neg hf] at h
  cases h
 rw [if_pos hf] at h
 obtain rfl:=Option.some.inj h
 exact H.contains119 A0 c0 l0 w hr0 hf
end Go.Proofs.Ytjohcjfmlhihbaa.G
namespace Go.Proofs.Ytjohcjfmlhihbaa.G
open Go.RowKit Go.Proofs.YtjohcjfmlhihbaaW.PrintWords Go.Proofs.YtjohcjfmlhihbaaW.PrintLast Go.Proofs.YtjohcjfmlhihbaaW.PrintMore
set_option maxHeartbeats 8000000
set_option maxRecDepth 100000
attribute [local go_sem] cond_true cond_false fld23_0 fld23_1 fld45_0 fld45_1 fld109_0 fld109_1 fld94_0 fld94_1 max2_int min2_int max_two min_two max_three min_three max_four min_four   -- for this text's walks alone
def shares_areClaims.f (l0:List Int):Option (Bool):=(shares_within.f (l0.length:Int) 1 10).bind fun t174=>(if t174 = true then ((contains119.f l0).bind fun t175=>(some (!t175))) else (some false))
theorem shares_areClaims.calls (A0:Option Addr) (c0:Nat) (l0:List Int) (r:Bool) (w:World) (hr0:Kd.C (Kd.int .i64) w A0 l0.length l0) (hc0:l0.length ≤ c0) (h:shares_areClaims.f l0 = some r) :
  Calls Try.prog 91 #[.slice A0 l0.length c0] w fun e w'=>e = .returned (.bool r) ∧ Below w.heap.size w w':=by
 have HR0:=Aside0.mk hr0
 have HC0:=Aside0.mk hc0
 clear hr0 hc0
 have HB:=Aside0.mk (Below.refl w.heap.size w)
 have H:((shares_within.f (l0.length:Int) 1 10).bind fun t174=>(if t174 = true then ((contains119.f l0).bind fun t175=>(some (!t175))) else (some false))) = some r:=h
 clear h
 replace H:=Option.bind_eq_some_iff.mp H
 obtain ⟨t174,A20,H⟩:=H
 replace H:(if t174 = true then ((contains119.f l0).bind fun t175=>(some (!t175))) else (some false)) = some r:=H
 have A2:=Aside0.mk A20
 clear A20
 by_cases c3:t174 = true
 case neg =>
  replace c3:=Bool.eq_false_iff.mpr c3
  subst c3
  have H1:(some false) = some r:=by rw [if_neg (show ¬ (false = true) by decide)] at H;exact H
  clear H
  have H:=H1
  clear H1
  obtain rfl:=Option.some.inj H
  go_enter Try.func91,Try.ntmps91
  go_wp2_with (first | ((with_reducible refine gate_callee (f:=92) rfl ?_);refine goesL_ (some 5) rfl rfl Try.func92 (by kernel_rfl) rfl #[.int .i64 (l0.length:Int),.int .i64 1,.int .i64 10] rfl (by (try simp only [List.map_toArray,List.map_cons,List.map_nil]);first | done | rfl | (simp only [List.length_drop,List.length_take];rfl)) ?_;(with_reducible refine (shares_within.calls (l0.length:Int) 1 10 false _ A2.out).mono ?_);rintro e w' ⟨rfl,⟨nd,rfl⟩⟩;refine ⟨_,rfl,?_⟩))
  go_ret
  exact ⟨by first | rfl | (simp [errW_none,errW_some] <;> rfl) | (simp [*,errW_none,errW_some] <;> rfl),by repeat (first | (with_reducible first | exact HB.out | apply below_alloc | apply pw_below_drewN | apply below_drew1) | exact HB.out)⟩
 subst c3
 have H1:((contains119.f l0).bind fun t175=>(some (!t175))) = some r:=by rw [if_pos rfl] at H;exact H
 clear H
 have H:=H1
 clear H1
 replace H:=Option.bind_eq_some_iff.mp H
 obtain ⟨t175,A40,H⟩:=H
 replace H:(some (!t175)) = some r:=H
 have A4:=Aside0.mk A40
 clear A40
 obtain rfl:=Option.some.inj H
 go_enter Try.func91,Try.ntmps91
 go_wp2_with (first | ((with_reducible refine gate_callee (f:=92) rfl ?_);refine goesL_ (some 5) rfl rfl Try.func92 (by kernel_rfl) rfl #[.int .i64 (l0.length:Int),.int .i64 1,.int .i64 10] rfl (by (try simp only [List.map_toArray,List.map_cons,List.map_nil]);first | done | rfl | (simp only [List.length_drop,List.length_take];rfl)) ?_;(with_reducible refine (shares_within.calls (l0.length:Int) 1 10 true _ A2.out).mono ?_);rintro e w' ⟨rfl,⟨nd,rfl⟩⟩;refine ⟨_,rfl,?_⟩) | (go_at_call 80;(with_reducible refine (contains119.calls _ _ l0 t175 _ ?side1 ?side2 A4.out).mono ?_);(case side1=>repeat (first | exact HR0.out | (with_reducible refine Kd.C_alloc ?_ _) | (with_reducible refine Kd.C_drewN ?_ _) | (with_reducible refine Kd.C_drew ?_)));(case side2=>exact HC0.out);rintro e w5 ⟨rfl,hb⟩;have n0_:=Aside0.mk (below_step (by repeat (first | (with_reducible first | exact HB.out | apply below_alloc | apply pw_below_drewN | apply below_drew1) | exact HB.out)) hb);clear HB;have HB:=n0_;clear n0_;(try clear hb)))
 go_ret
 exact ⟨by first | rfl | (simp [errW_none,errW_some] <;> rfl) | (simp [*,errW_none,errW_some] <;> rfl),by repeat (first | (with_reducible first | exact HB.out | apply below_alloc | apply pw_below_drewN | apply below_drew1) | exact HB.out)⟩
def shares_total.l0:Nat → Int → List Int → Int → Int → Option (Int)
 | 0,_,_,_,_=>none
 | k + 1,x3,x6,x7,x8=>if x8 < x7 then (if 0 ≤ x8 then (if x8 < (x6.length:Int) then (shares_total.l0 k (wrap64 (x3 + (rd x6 x8))) x6 x7 (wrap64 (x8 + 1))) else (none)) else (none)) else (some x3)
def shares_total.f (k:Nat) (l0:List Int):Option (Int):=shares_total.l0 k 0 l0 (l0.length:Int) 0
theorem shares_total.mono_l:∀ k,(∀ y0 y1 y2 y3,LeO (shares_total.l0 k y0 y1 y2 y3) (shares_total.l0 (k + 1) y0 y1 y2 y3))
 | 0=>fun _ _ _ _ r h=>by simp [shares_total.l0] at h
 | k + 1=>by
  have ih0:=shares_total.mono_l k
  intro y0 y1 y2 y3
  unfold shares_total.l0
  repeat' first
  | (with_reducible exact ih0 _ _ _ _)
  | (with_reducible exact LeO.refl _)
  | (with_reducible exact LeO.none _)
  | (with_reducible refine LeO.ite ?_ ?_)
  | (with_reducible refine LeO.bind ?_ (fun _=>?_))
  | exact ih0 _ _ _ _
  | exact LeO.none _
  | refine LeO.ite ?_ ?_
  | refine LeO.bind ?_ (fun _=>?_)
theorem shares_total.mono:∀ a0 k,LeO (shares_total.f k a0) (shares_total.f (k + 1) a0):=by
 intro a0 k
 have ih0:=shares_total.mono_l k
 unfold shares_total.f
 repeat' first
   | (with_reducible exact ih0 _ _ _ _)
   | (with_reducible exact LeO.refl _)
   | (with_reducible exact LeO.none _)
   | (with_reducible refine LeO.ite ?_ ?_)
   | (with_reducible refine LeO.bind ?_ (fun _=>?_))
   | exact ih0 _ _ _ _
   | exact LeO.none _
   | refine LeO.ite ?_ ?_
   | refine LeO.bind ?_ (fun _=>?_)
theorem shares_total.calls (k:Nat) (A0:Option Addr) (c0:Nat) (l0:List Int) (r:Int) (w:World) (hr0:Kd.C (Kd.int .i64) w A0 l0.length l0) (hc0:l0.length ≤ c0) (h:shares_total.f k l0 = some r) :
  Calls Try.prog 93 #[.slice A0 l0.length c0] w fun e w'=>e = .returned (.int .i64 r) ∧ Drawn0 w w':=by
 have HR0:=Aside0.mk hr0
 have HC0:=Aside0.mk hc0
 clear hr0 hc0
 have H:(shares_total.l0 k 0 l0 (l0.length:Int) 0) = some r:=h
 clear h
 have H':=Aside0.mk H
 clear H
 go_enter Try.func93,Try.ntmps93
 go_wp2
 go_loopg [3,8] k (fun kq v3 v8 w'=>∃ (x3_1:Int) (x8_1:Int),v3 = .int .i64 x3_1 ∧ v8 = .int .i64 x8_1 ∧ Aside0 (shares_total.l0 kq x3_1 l0 (l0.length:Int) x8_1 = some r) ∧ Aside0 (kq ≤ k) ∧ Drawn0 w w')
 case atStart=>exact ⟨(0),(0),(by first | rfl | (simp;done) | (simp [*];done)),(by first | rfl | (simp;done) | (simp [*];done)),H',⟨Nat.le_refl _⟩,by repeat (first | exact Drawn0.refl _ | apply Drawn0.step)⟩
 case round =>
  clear H'
  obtain ⟨x3_1,x8_1,rfl,rfl,HA,HK1,⟨m1,rfl⟩⟩:=hrel
  cases gk with
  | zero=>exact absurd HA.out (by simp [shares_total.l0])
  | succ k1 =>
   have H:=HA.out
   clear HA
   simp only [shares_total.l0] at H
   by_cases c2:x8_1 < (l0.length:Int)
   case neg =>
    rw [if_neg c2] at H
    have c2b0:decide (x8_1 < (l0.length:Int)) = false:=decide_eq_false c2
    clear c2
    obtain rfl:=Option.some.inj H
    go_wp2
    go_ret
    exact ⟨by first | rfl | (simp;done) | (simp [*];done),by repeat (first | exact Drawn0.refl _ | apply Drawn0.step)⟩
   rw [if_pos c2] at H
   have c2b0:decide (x8_1 < (l0.length:Int)) = true:=decide_eq_true c2
   clear c2
   by_cases c3:0 ≤ x8_1
   case neg =>
    rw [if_neg c3] at H
    exact absurd H (by simp)
   rw [if_pos c3] at H
   have c3b0:decide (0 ≤ x8_1) = true:=decide_eq_true c3
   clear c3
   by_cases c4:x8_1 < (l0.length:Int)
   case neg =>
    rw [if_neg c4] at H
    exact absurd H (by simp)
   rw [if_pos c4] at H
   have c4b0:decide (x8_1 < (l0.length:Int)) = true:=decide_eq_true c4
   clear c4
   have H':=Aside0.mk H
   clear H
   have p176:0 ≤ (x8_1:Int):=of_decide_eq_true (by first | (with_reducible assumption) | assumption)
   have q176:x8_1 < (l0.length:Int):=of_decide_eq_true (by first | (with_reducible assumption) | assumption)
   obtain ⟨ad176,e176,hx176_0⟩:=Kd.at_int HR0.out x8_1 p176 q176
   cases e176
   replace p176:=eq_true p176
   replace q176:=eq_true q176
   go_wp2
   go_roundg k1
   case measure=>have:=HK1.out;omega
   case rel=>exact ⟨(wrap64 (x3_1 + (rd l0 x8_1))),(wrap64 (x8_1 + 1)),(by first | rfl | (simp;done) | (simp [*];done)),(by first | rfl | (simp;done) | (simp [*];done)),H',⟨by have:=HK1.out;omega⟩,by repeat (first | exact Drawn0.refl _ | apply Drawn0.step)⟩
end Go.Proofs.Ytjohcjfmlhihbaa.G
namespace Go.Proofs.Ytjohcjfmlhihbaa.G
open Go.RowKit Go.Proofs.YtjohcjfmlhihbaaW.PrintWords Go.Proofs.YtjohcjfmlhihbaaW.PrintLast Go.Proofs.YtjohcjfmlhihbaaW.PrintMore
set_option maxHeartbeats 8000000
set_option maxRecDepth 100000
attribute [local go_sem] cond_true cond_false fld23_0 fld23_1 fld45_0 fld45_1 fld109_0 fld109_1 fld94_0 fld94_1 max2_int min2_int max_two min_two max_three min_three max_four min_four
def shares_newClaims.f (k:Nat) (l0:List Int) (a1:Int):Option (List Int × Int × Bool):=(shares_areClaims.f l0).bind fun t178=>(if t178 = true then ((shares_total.f k l0).bind fun t179=>((shares_within.f a1 0 t179).bind fun t180=>(some (l0,a1,t180)))) else (some (l0,a1,false)))
theorem shares_newClaims.mono:∀ a0 a1 k,LeO (shares_newClaims.f k a0 a1) (shares_newClaims.f (k + 1) a0 a1):=by
 intro a0 a1 k
 unfold shares_newClaims.f
 repeat' first
   | (with_reducible first | exact shares_total.mono _ _ | exact LeO.refl _ | exact LeO.none _ | refine LeO.ite ?_ ?_ | refine LeO.bind ?_ (fun _=>?_))
   | exact LeO.none _ | refine LeO.ite ?_ ?_ | refine LeO.bind ?_ (fun _=>?_)
theorem shares_newClaims.calls (k:Nat) (P0_:Nat → Prop) (u9000_:Value) (l0:List Int) (a1:Int) (r1:List Int) (r2:Int) (r3:Bool) (w0 w:World) (hB:Below w0.heap.size w0 w) (ho0:Kd.R (Kd.int .i64) 3 w w0.heap.size P0_ u9000_ l0) (h:shares_newClaims.f k l0 a1 = some (r1,r2,r3)) :
  Calls Try.prog 62 #[u9000_,.int .i64 a1] w fun e w'=>∃ v0_:Value,e = .returned (.tuple #[.agg #[v0_,.int .i64 r2],.bool r3]) ∧ Kd.R (Kd.int .i64) 3 w' w0.heap.size (fun k_=>(P0_ k_ ∨ w.heap.size ≤ k_)) v0_ r1 ∧ Below w0.heap.size w0 w' ∧ Kept w w' (fun k_=>P0_ k_):=by
 have hu94:=Try.underlying94
 have HO0:=A_ (show Kd.R (Kd.int .i64) 3 w w0.heap.size (fun k_=>(P0_ k_ ∨ w.heap.size ≤ k_)) u9000_ l0 from Kd.R_mono ho0 (fun k_ hk=>(.inl hk)))
 have HK:=A_ (Kept.refl w (fun k_=>P0_ k_))
 have HW0:=A_ hB.size
 have HB:=A_ hB
 clear hB
 have H:((shares_areClaims.f l0).bind fun t178=>(if t178 = true then ((shares_total.f k l0).bind fun t179=>((shares_within.f a1 0 t179).bind fun t180=>(some (l0,a1,t180)))) else (some (l0,a1,false)))) = some (r1,r2,r3):=h
 clear h
 replace H:=Option.bind_eq_some_iff.mp H
 obtain ⟨t178,A30,H⟩:=H
 replace H:(if t178 = true then ((shares_total.f k l0).bind fun t179=>((shares_within.f a1 0 t179).bind fun t180=>(some (l0,a1,t180)))) else (some (l0,a1,false))) = some (r1,r2,r3):=H
 have A3:=A_ A30
 clear A30
 by_cases c4:t178 = true
 case neg =>
  replace c4:=Bool.eq_false_iff.mpr c4
  subst c4
  rw [if_neg (show ¬ (false = true) by decide)] at H
  simp only [Option.some.injEq,Prod.mk.injEq] at H
  obtain ⟨rfl,rfl,rfl⟩:=H
  go_enter Try.func62,Try.ntmps62
  go_wp2_with (first | ((with_reducible refine gate_dst (N:=4) rfl ?_);refine bx 4 #[.slice none 0 0,.int .i64 0] 94 ?_;intro gb177 hg w11 hbox hb;have BK177:=A_ hbox;have GW177:=A_ ((by rw [hg];exact (by first | exact HK.out.1 | exact (show Kept w _ (fun k_=>P0_ k_) from bl HK).1):w.heap.size ≤ gb177));have GE177:=A_ ((by rw [hg];exact (below_size HB.out):w0.heap.size ≤ gb177));replace HO0:=rB HO0 hb;replace HK:=A_ (Kept.below (S:=(fun k_=>P0_ k_)) HK.out hb);replace HB:=bB HB hb;clear hb hbox hg;obtain ⟨Ao12,co12,eo12⟩:=Kd.R_slice HO0.out;subst eo12) | ((with_reducible refine gate_callee (f:=91) rfl ?_);refine gL (some 10) Try.func91 #[.slice Ao12 l0.length co12] ?_;(with_reducible refine (shares_areClaims.calls _ _ l0 false _ ?side1 ?side2 A3.out).mono ?_);(case side1=>repeat (first | exact (Kd.R_reads' HO0.out).2.2 | (with_reducible refine Kd.C_alloc ?_ _) | (with_reducible refine Kd.C_drewN ?_ _) | (with_reducible refine Kd.C_drew ?_)));(case side2=>exact (Kd.R_reads' HO0.out).2.1);rintro e w13 ⟨rfl,hb⟩;refine ⟨_,rfl,?_⟩;replace HO0:=rB HO0 hb;replace BK177:=kB BK177 hb;replace HK:=A_ (Kept.below (S:=(fun k_=>P0_ k_)) HK.out hb);replace HB:=bB HB hb;(try clear hb);have hcz14_0:w13.cell? ⟨gb177,0,none⟩ = some (.slice none 0 0):=cz BK177 0;have hcz14_1:w13.cell? ⟨gb177,1,none⟩ = some (.int .i64 0):=cz BK177 1;have hfz14_0:=blk_frozen BK177.out 0;have hfz14_1:=blk_frozen BK177.out 1))
  refine bodyPost_ret (results_ct rfl _ _ gb177 94 #[.slice Ao12 l0.length co12,.int .i64 a1] (0,0) _ rfl (by (with_reducible repeat (first | refine blk_drewN ?_ _ | refine blk_drew ?_ | refine blk_alloc ?_ _));refine blk_put (cs:=#[.slice Ao12 l0.length co12,.int .i64 0]) ?_ 1 _ rfl;(with_reducible repeat (first | refine blk_drewN ?_ _ | refine blk_drew ?_ | refine blk_alloc ?_ _));refine blk_put (cs:=#[.slice none 0 0,.int .i64 0]) ?_ 0 _ rfl;(with_reducible repeat (first | refine blk_drewN ?_ _ | refine blk_drew ?_ | refine blk_alloc ?_ _));exact BK177.out) Try.underlying94 rfl (by kernel_rfl)) rfl ?_
  exact ⟨_,rfl,by (with_reducible repeat (first | apply Kd.R_alloc | apply Kd.R_drewN | apply Kd.R_drew));exact Kd.R_mono (Kd.R_far (p:=⟨gb177,1,none⟩) (Kd.R_far (p:=⟨gb177,0,none⟩) (Kd.R_types HO0.out BK177.out (by decide)) (fun _ hk=>hk.2) (.slice Ao12 l0.length co12)) (fun _ hk=>hk.2) (.int .i64 a1)) (fun _ hk=>hk.1),bl HB,by repeat (first | (with_reducible first | exact HK.out | apply Kept.alloc | apply Kept.drewN | apply Kept.drew | refine Kept.setCell ?_ (.inr GW177.out) _) | exact HK.out)⟩
 subst c4
 rw [if_pos rfl] at H
 replace H:=Option.bind_eq_some_iff.mp H
 obtain ⟨t179,A50,H⟩:=H
 replace H:((shares_within.f a1 0 t179).bind fun t180=>(some (l0,a1,t180))) = some (r1,r2,r3):=H
 have A5:=A_ A50
 clear A50
 replace H:=Option.bind_eq_some_iff.mp H
 obtain ⟨t180,A60,H⟩:=H
 replace H:(some (l0,a1,t180)) = some (r1,r2,r3):=H
 have A6:=A_ A60
 clear A60
 simp only [Option.some.injEq,Prod.mk.injEq] at H
 obtain ⟨rfl,rfl,rfl⟩:=H
 go_enter Try.func62,Try.ntmps62
 go_wp2_with (first | ((with_reducible refine gate_dst (N:=4) rfl ?_);refine bx 4 #[.slice none 0 0,.int .i64 0] 94 ?_;intro gb177 hg w7 hbox hb;have BK177:=A_ hbox;have GW177:=A_ ((by rw [hg];exact (by first | exact HK.out.1 | exact (show Kept w _ (fun k_=>P0_ k_) from bl HK).1):w.heap.size ≤ gb177));have GE177:=A_ ((by rw [hg];exact (below_size HB.out):w0.heap.size ≤ gb177));replace HO0:=rB HO0 hb;replace HK:=A_ (Kept.below (S:=(fun k_=>P0_ k_)) HK.out hb);replace HB:=bB HB hb;clear hb hbox hg;obtain ⟨Ao8,co8,eo8⟩:=Kd.R_slice HO0.out;subst eo8) | ((with_reducible refine gate_callee (f:=91) rfl ?_);refine gL (some 10) Try.func91 #[.slice Ao8 l0.length co8] ?_;(with_reducible refine (shares_areClaims.calls _ _ l0 true _ ?side1 ?side2 A3.out).mono ?_);(case side1=>repeat (first | exact (Kd.R_reads' HO0.out).2.2 | (with_reducible refine Kd.C_alloc ?_ _) | (with_reducible refine Kd.C_drewN ?_ _) | (with_reducible refine Kd.C_drew ?_)));(case side2=>exact (Kd.R_reads' HO0.out).2.1);rintro e w9 ⟨rfl,hb⟩;refine ⟨_,rfl,?_⟩;replace HO0:=rB HO0 hb;replace BK177:=kB BK177 hb;replace HK:=A_ (Kept.below (S:=(fun k_=>P0_ k_)) HK.out hb);replace HB:=bB HB hb;(try clear hb)) | (go_at_call 93;(with_reducible refine (shares_total.calls k _ _ l0 t179 _ ?side1 ?side2 A5.out).mono ?_);(case side1=>repeat (first | exact (Kd.R_reads' HO0.out).2.2 | (with_reducible refine Kd.C_alloc ?_ _) | (with_reducible refine Kd.C_drewN ?_ _) | (with_reducible refine Kd.C_drew ?_)));(case side2=>exact (Kd.R_reads' HO0.out).2.1);rintro e w' ⟨rfl,⟨nd,rfl⟩⟩;(try (rw [drewN_self w9];generalize hq_:World.drewN w9 _ = w9;replace HO0:Aside0 (Kd.R (Kd.int .i64) 3 w9 w0.heap.size (fun k_=>(P0_ k_ ∨ w.heap.size ≤ k_)) (.slice Ao8 l0.length co8) l0):=⟨by rw [← hq_];exact HO0.out⟩;replace BK177:Aside0 (w9.heap[gb177]? = some (.cells #[.slice none 0 0,.int .i64 0] 94 (0,0))):=⟨by rw [← hq_];exact BK177.out⟩;replace HK:Aside0 (Kept w w9 (fun k_=>P0_ k_)):=⟨by rw [← hq_];exact HK.out⟩;replace HB:Aside0 (Below w0.heap.size w0 w9):=⟨by rw [← hq_];exact HB.out⟩;clear hq_))) | (go_at_call 92;(with_reducible refine (shares_within.calls a1 0 t179 t180 _ A6.out).mono ?_);rintro e w' ⟨rfl,⟨nd,rfl⟩⟩;(try (rw [drewN_self w9];generalize hq_:World.drewN w9 _ = w9;replace HO0:Aside0 (Kd.R (Kd.int .i64) 3 w9 w0.heap.size (fun k_=>(P0_ k_ ∨ w.heap.size ≤ k_)) (.slice Ao8 l0.length co8) l0):=⟨by rw [← hq_];exact HO0.out⟩;replace BK177:Aside0 (w9.heap[gb177]? = some (.cells #[.slice none 0 0,.int .i64 0] 94 (0,0))):=⟨by rw [← hq_];exact BK177.out⟩;replace HK:Aside0 (Kept w w9 (fun k_=>P0_ k_)):=⟨by rw [← hq_];exact HK.out⟩;replace HB:Aside0 (Below w0.heap.size w0 w9):=⟨by rw [← hq_];exact HB.out⟩;clear hq_));have hcz10_0:w9.cell? ⟨gb177,0,none⟩ = some (.slice none 0 0):=cz BK177 0;have hcz10_1:w9.cell? ⟨gb177,1,none⟩ = some (.int .i64 0):=cz BK177 1;have hfz10_0:=blk_frozen BK177.out 0;have hfz10_1:=blk_frozen BK177.out 1))
 refine bodyPost_ret (results_ct rfl _ _ gb177 94 #[.slice Ao8 l0.length co8,.int .i64 a1] (0,0) _ rfl (by (with_reducible repeat (first | refine blk_drewN ?_ _ | refine blk_drew ?_ | refine blk_alloc ?_ _));refine blk_put (cs:=#[.slice Ao8 l0.length co8,.int .i64 0]) ?_ 1 _ rfl;(with_reducible repeat (first | refine blk_drewN ?_ _ | refine blk_drew ?_ | refine blk_alloc ?_ _));refine blk_put (cs:=#[.slice none 0 0,.int .i64 0]) ?_ 0 _ rfl;(with_reducible repeat (first | refine blk_drewN ?_ _ | refine blk_drew ?_ | refine blk_alloc ?_ _));exact BK177.out) Try.underlying94 rfl (by kernel_rfl)) rfl ?_
 exact ⟨_,rfl,by (with_reducible repeat (first | apply Kd.R_alloc | apply Kd.R_drewN | apply Kd.R_drew));exact Kd.R_mono (Kd.R_far (p:=⟨gb177,1,none⟩) (Kd.R_far (p:=⟨gb177,0,none⟩) (Kd.R_types HO0.out BK177.out (by decide)) (fun _ hk=>hk.2) (.slice Ao8 l0.length co8)) (fun _ hk=>hk.2) (.int .i64 a1)) (fun _ hk=>hk.1),bl HB,by repeat (first | (with_reducible first | exact HK.out | apply Kept.alloc | apply Kept.drewN | apply Kept.drew | refine Kept.setCell ?_ (.inr GW177.out) _) | exact HK.out)⟩
end Go.Proofs.Ytjohcjfmlhihbaa.G
namespace Go.Proofs.Ytjohcjfmlhihbaa.G
open Go.RowKit Go.Proofs.YtjohcjfmlhihbaaW.PrintWords Go.Proofs.YtjohcjfmlhihbaaW.PrintLast Go.Proofs.YtjohcjfmlhihbaaW.PrintMore
set_option maxHeartbeats 8000000
set_option maxRecDepth 100000
attribute [local go_sem] cond_true cond_false fld23_0 fld23_1 fld45_0 fld45_1 fld109_0 fld109_1 fld94_0 fld94_1 max2_int min2_int max_two min_two max_three min_three max_four min_four   -- for this text's walks alone
def shares_gcd.l0:Nat → Int → Int → Option (Int)
 | 0,_,_=>none
 | k + 1,x0,x1=>if x1 > 0 then (if x1 = 0 then (none) else (shares_gcd.l0 k x1 (Int.tmod x0 x1))) else (some x0)
def shares_gcd.f (k:Nat) (a0:Int) (a1:Int):Option (Int):=shares_gcd.l0 k a0 a1
theorem shares_gcd.mono_l:∀ k,(∀ y0 y1,LeO (shares_gcd.l0 k y0 y1) (shares_gcd.l0 (k + 1) y0 y1))
 | 0=>fun _ _ r h=>by simp [shares_gcd.l0] at h
 | k + 1=>by
  have ih0:=shares_gcd.mono_l k
  intro y0 y1
  unfold shares_gcd.l0
  repeat' first
  | (with_reducible exact ih0 _ _)
  | (with_reducible exact LeO.refl _)
  | (with_reducible exact LeO.none _)
  | (with_reducible refine LeO.ite ?_ ?_)
  | (with_reducible refine LeO.bind ?_ (fun _=>?_))
  | exact ih0 _ _
  | exact LeO.none _
  | refine LeO.ite ?_ ?_
  | refine LeO.bind ?_ (fun _=>?_)
theorem shares_gcd.mono:∀ a0 a1 k,LeO (shares_gcd.f k a0 a1) (shares_gcd.f (k + 1) a0 a1):=by
 intro a0 a1 k
 have ih0:=shares_gcd.mono_l k
 unfold shares_gcd.f
 repeat' first
   | (with_reducible exact ih0 _ _)
   | (with_reducible exact LeO.refl _)
   | (with_reducible exact LeO.none _)
   | (with_reducible refine LeO.ite ?_ ?_)
   | (with_reducible refine LeO.bind ?_ (fun _=>?_))
   | exact ih0 _ _
   | exact LeO.none _
   | refine LeO.ite ?_ ?_
   | refine LeO.bind ?_ (fun _=>?_)
theorem shares_gcd.calls (k:Nat) (a0:Int) (a1:Int) (r:Int) (w:World) (h:shares_gcd.f k a0 a1 = some r) :
  Calls Try.prog 116 #[.int .i64 a0,.int .i64 a1] w fun e w'=>e = .returned (.int .i64 r) ∧ Drawn0 w w':=by
 have H:(shares_gcd.l0 k a0 a1) = some r:=h
 clear h
 have H':=Aside0.mk H
 clear H
 go_enter Try.func116,Try.ntmps116
 go_wp2
 repeat (go_quiet (fail);try go_wp2)
 go_loopg [0,1] k (fun kq v0 v1 w'=>∃ (x0_1:Int) (x1_1:Int),v0 = .int .i64 x0_1 ∧ v1 = .int .i64 x1_1 ∧ Aside0 (shares_gcd.l0 kq x0_1 x1_1 = some r) ∧ Aside0 (kq ≤ k) ∧ Drawn0 w w')
 case atStart=>exact ⟨(a0),(a1),(by first | rfl | (simp;done) | (simp [*];done)),(by first | rfl | (simp;done) | (simp [*];done)),H',⟨Nat.le_refl _⟩,by repeat (first | exact Drawn0.refl _ | apply Drawn0.step)⟩
 case round =>
  clear H'
  try clear c1
  try clear p2
  obtain ⟨x0_1,x1_1,rfl,rfl,HA,HK1,⟨m1,rfl⟩⟩:=hrel
  cases gk with
  | zero=>exact absurd HA.out (by simp [shares_gcd.l0])
  | succ k1 =>
   have H:=HA.out
   clear HA
   simp only [shares_gcd.l0] at H
   by_cases c3:x1_1 > 0
   case neg =>
    rw [if_neg c3] at H
    have c3b0:decide (0 < x1_1) = false:=decide_eq_false c3
    clear c3
    obtain rfl:=Option.some.inj H
    go_wp2
    repeat (go_quiet (fail);try go_wp2)
    go_ret
    exact ⟨by first | rfl | (simp;done) | (simp [*];done),by repeat (first | exact Drawn0.refl _ | apply Drawn0.step)⟩
   rw [if_pos c3] at H
   have c3b0:decide (0 < x1_1) = true:=decide_eq_true c3
   clear c3
   by_cases c4:x1_1 = 0
   ·rw [if_pos c4] at H
    exact absurd H (by simp)
   rw [if_neg c4] at H
   have c4b0:(x1_1 == 0) = false:=beq_eq_false_iff_ne.mpr c4
   have c4b1:(x1_1 != 0) = true:=bne_iff_ne.mpr c4
   have H':=Aside0.mk H
   clear H
   go_wp2
   repeat (go_quiet (fail);try go_wp2)
   go_roundg k1
   case measure=>have:=HK1.out;omega
   case rel=>exact ⟨(x1_1),(Int.tmod x0_1 x1_1),(by first | rfl | (simp;done) | (simp [*];done)),(by first | rfl | (simp;done) | (simp [*];done)),H',⟨by have:=HK1.out;omega⟩,by repeat (first | exact Drawn0.refl _ | apply Drawn0.step)⟩
def shares_frac.f (k:Nat) (a0:Int) (a1:Int):Option (Int × Int):=(shares_gcd.f k (mx a0 (wrap64 (-a0))) a1).bind fun t102=>(if t102 = 0 then (none) else (some (wrap64 (Int.tdiv a0 t102),wrap64 (Int.tdiv a1 t102))))
theorem shares_frac.mono:∀ a0 a1 k,LeO (shares_frac.f k a0 a1) (shares_frac.f (k + 1) a0 a1):=by
 intro a0 a1 k
 unfold shares_frac.f
 repeat' first
   | (with_reducible exact shares_gcd.mono _ _ _)
   | (with_reducible exact LeO.refl _)
   | (with_reducible exact LeO.none _)
   | (with_reducible refine LeO.ite ?_ ?_)
   | (with_reducible refine LeO.bind ?_ (fun _=>?_))
   | exact shares_gcd.mono _ _ _
   | exact LeO.none _
   | refine LeO.ite ?_ ?_
   | refine LeO.bind ?_ (fun _=>?_)
def shares_frac.T2:Bool × List (List Nat × List Nat):=(true,[([],[]),([],[]),([0,1],[0,1]),([],[]),([],[]),([3,4],[3,4]),([2,5],[2,5]),([6,0,1,2,3,4,5,6],[6])])
def shares_frac.B2:List Nat:=[0,0,3,0,0,24,63,127]
theorem shares_frac.tab2:rtab .any (opsOf Try.f117 2) = shares_frac.T2:=by kernel_rfl
theorem shares_frac.bits2:waitsOk shares_frac.T2.2 shares_frac.B2 = true:=by kernel_rfl
theorem shares_frac.calls (k:Nat) (a0:Int) (a1:Int) (r1:Int) (r2:Int) (w:World) (h:shares_frac.f k a0 a1 = some (r1,r2)) :
  Calls Try.prog 117 #[.int .i64 a0,.int .i64 a1] w fun e w'=>e = .returned (.agg #[.int .i64 r1,.int .i64 r2]) ∧ Below w.heap.size w w':=by
 have hu23:=Try.underlying23
 have HB:=Aside0.mk (Below.refl w.heap.size w)
 have H:((shares_gcd.f k (mx a0 (wrap64 (-a0))) a1).bind fun t102=>(if t102 = 0 then (none) else (some (wrap64 (Int.tdiv a0 t102),wrap64 (Int.tdiv a1 t102))))) = some (r1,r2):=h
 clear h
 obtain ⟨ji3,hji3⟩:∃ j_:Int,(mx a0 (wrap64 (-a0))) = j_:=⟨_,rfl⟩
 replace H:((shares_gcd.f k (ji3) a1).bind fun t102=>(if t102 = 0 then (none) else (some (wrap64 (Int.tdiv a0 t102),wrap64 (Int.tdiv a1 t102))))) = some (r1,r2):=by first | (rw [hji3] at H;exact H) | (simp only [hji3] at H ⊢;exact H)
 have hji3_:(if a0 < (wrap64 (-a0)) then (wrap64 (-a0)) else a0) = ji3:=hji3
 replace H:=Option.bind_eq_some_iff.mp H
 obtain ⟨t102,A40,H⟩:=H
 replace H:(if t102 = 0 then (none) else (some (wrap64 (Int.tdiv a0 t102),wrap64 (Int.tdiv a1 t102)))) = some (r1,r2):=H
 have A4:=Aside0.mk A40
 clear A40
 by_cases c5:t102 = 0
 ·rw [if_pos c5] at H
  exact absurd H (by simp)
 rw [if_neg c5] at H
 have c5b0:(t102 == 0) = false:=beq_eq_false_iff_ne.mpr c5
 have c5b1:(t102 != 0) = true:=bne_iff_ne.mpr c5
 simp only [Option.some.injEq,Prod.mk.injEq] at H
 obtain ⟨rfl,rfl⟩:=H
 go_enter Try.func117,Try.ntmps117
 try go_wp2_with (first | ((with_reducible refine gate_dst (N:=4) rfl ?_);refine box_event ?hg (N:=4) ?hd (cs:=#[.int .i64 0,.int .i64 0]) (t:=23) ?hr ?_;(case hd=>rfl);(case hg=>rfl);(case hr=>first | (go_simp;done) | (go_simp;rfl));intro gb101 hg w6 hbox hb;have n0_:=Aside0.mk (below_step (by repeat (first | (with_reducible first | exact HB.out | apply below_alloc | apply pw_below_drewN | apply below_drew1) | exact HB.out)) hb);have n1_:=Aside0.mk (hbox);have n2_:=Aside0.mk ((by rw [hg];exact (below_size (by repeat (first | (with_reducible first | exact HB.out | apply below_alloc | apply pw_below_drewN | apply below_drew1) | exact HB.out))):w.heap.size ≤ gb101));have n3_:=Aside0.mk ((by rw [hg];exact (below_size (by repeat (first | (with_reducible first | exact HB.out | apply below_alloc | apply pw_below_drewN | apply below_drew1) | exact HB.out))):w.heap.size ≤ gb101));clear HB;have HB:=n0_;have BK101:=n1_;have GW101:=n2_;have GE101:=n3_;clear n0_ n1_ n2_ n3_;clear hb hbox hg) | ((with_reducible refine gate_callee (f:=116) rfl ?_);refine goesL_ (some 11) rfl rfl Try.func116 (by kernel_rfl) rfl #[.int .i64 ji3,.int .i64 a1] rfl (by (try simp only [List.map_toArray,List.map_cons,List.map_nil]);first | done | (simp only [hji3];rfl) | rfl | (simp only [List.length_drop,List.length_take];rfl)) ?_;(with_reducible refine (shares_gcd.calls k ji3 a1 t102 _ A4.out).mono ?_);rintro e w' ⟨rfl,⟨nd,rfl⟩⟩;refine ⟨_,rfl,?_⟩;(try (rw [drewN_self w6];generalize hq_:World.drewN w6 _ = w6;have n0_:Aside0 (w6.heap[gb101]? = some (.cells #[.int .i64 0,.int .i64 0] 23 (0,0))):=⟨by rw [← hq_];exact (by (with_reducible repeat (first | refine blk_drewN ?_ _ | refine blk_drew ?_ | refine blk_alloc ?_ _));exact BK101.out)⟩;have n1_:Aside0 (Below w.heap.size w w6):=⟨by rw [← hq_];exact (by repeat (first | (with_reducible first | exact HB.out | apply below_alloc | apply pw_below_drewN | apply below_drew1 | refine below_set ?_ GE101.out) | exact HB.out))⟩;clear BK101 HB hq_;have BK101:=n0_;have HB:=n1_;clear n0_ n1_))))
 have n0_:=Aside0.mk (blk_drew BK101.out)
 have n1_:=Aside0.mk (below_drew1 HB.out)
 clear BK101
 clear HB
 have BK101:=n0_
 have HB:=n1_
 clear n0_ n1_
 refine start_ (n:=8) (S:=fun w'=>True) (ds:=[]) #[false,false,false,false,false,false,false,false] (by kernel_rfl) rfl rfl trivial (fun hHeld=>?_);refine with_tabW shares_frac.tab2 shares_frac.bits2 (fun HT_ HW_=>?_)
 generalize w6.drew = w7 at BK101 HB hHeld ⊢
 refine pure_ (i:=0) (N:=some 12) (v:=?_) (a':=?_) #[true,false,false,false,false,false,false,false] rfl rfl (any_of HT_.out (by kernel_rfl)) (fun _ _ _ h=>h) (Or.inl ⟨by rfl,?_⟩) ?_ ?_
 rotate_left
 ·intro w'
  go_simp
  with_reducible rfl
 rotate_left
 ·simp only [Act.put,List.setIfInBounds_toArray,List.set_cons_zero,List.set_cons_succ,i64_w,i32_w]
  rfl
 refine pure_ (i:=1) (N:=some 13) (v:=?_) (a':=?_) #[true,true,false,false,false,false,false,false] rfl rfl (any_of HT_.out (by kernel_rfl)) (fun _ _ _ h=>h) (Or.inl ⟨by rfl,?_⟩) ?_ ?_
 rotate_left
 ·intro w'
  go_simp
  with_reducible rfl
 rotate_left
 ·simp only [Act.put,List.setIfInBounds_toArray,List.set_cons_zero,List.set_cons_succ,i64_w,i32_w]
  rfl
 refine pure_ (i:=2) (N:=some 14) (v:=?_) (a':=?_) #[true,true,true,false,false,false,false,false] rfl rfl (any_of HT_.out (by kernel_rfl)) (fun _ _ _ h=>h) (Or.inl ⟨by rfl,?_⟩) ?_ ?_
 rotate_left
 ·intro w'
  go_simp
  with_reducible rfl
 rotate_left
 ·simp only [Act.put,List.setIfInBounds_toArray,List.set_cons_zero,List.set_cons_succ,i64_w,i32_w]
  rfl
 refine pure_ (i:=3) (N:=some 15) (v:=?_) (a':=?_) #[true,true,true,true,false,false,false,false] rfl rfl (any_of HT_.out (by kernel_rfl)) (fun _ _ _ h=>h) (Or.inl ⟨by rfl,?_⟩) ?_ ?_
 rotate_left
 ·intro w'
  go_simp
  with_reducible rfl
 rotate_left
 ·simp only [Act.put,List.setIfInBounds_toArray,List.set_cons_zero,List.set_cons_succ,i64_w,i32_w]
  rfl
 refine pure_ (i:=4) (N:=some 16) (v:=?_) (a':=?_) #[true,true,true,true,true,false,false,false] rfl rfl (any_of HT_.out (by kernel_rfl)) (fun _ _ _ h=>h) (Or.inl ⟨by rfl,?_⟩) ?_ ?_
 rotate_left
 ·intro w'
  go_simp
  with_reducible rfl
 rotate_left
 ·simp only [Act.put,List.setIfInBounds_toArray,List.set_cons_zero,List.set_cons_succ,i64_w,i32_w]
  rfl
 refine pure_ (i:=5) (N:=some 17) (v:=?_) (a':=?_) #[true,true,true,true,true,true,false,false] rfl rfl (any_of HT_.out (by kernel_rfl)) (fun _ _ _ h=>h) (Or.inl ⟨by rfl,?_⟩) ?_ ?_
 rotate_left
 ·intro w'
  go_simp
  with_reducible rfl
 rotate_left
 ·simp only [Act.put,List.setIfInBounds_toArray,List.set_cons_zero,List.set_cons_succ,i64_w,i32_w]
  rfl
 refine pure_ (i:=6) (N:=some 18) (v:=?_) (a':=?_) #[true,true,true,true,true,true,true,false] rfl rfl (any_of HT_.out (by kernel_rfl)) (fun _ _ _ h=>h) (Or.inl ⟨by rfl,?_⟩) ?_ ?_
 rotate_left
 ·intro w'
  go_simp
  with_reducible rfl
 rotate_left
 ·simp only [Act.put,List.setIfInBounds_toArray,List.set_cons_zero,List.set_cons_succ,i64_w,i32_w]
  rfl
 refine one_ (i:=7) (N:=none) #[true,true,true,true,true,true,true,true] rfl rfl (one_of HT_.out (by kernel_rfl)) (by decide) (fun K hK=>?_)
 have hs8:w7.cell? ⟨gb101,0,none⟩ = some (.int .i64 0):=(blk_cell BK101.out 0).trans rfl
 have hfs8:=blk_frozen BK101.out 0
 have hs9:w7.cell? ⟨gb101,1,none⟩ = some (.int .i64 0):=(blk_cell BK101.out 1).trans rfl
 have hfs9:=blk_frozen BK101.out 1
 refine skip_ (w1:=?_) (by rfl) rfl ?_ ?_
 rotate_left
 ·go_simp
  rfl
 refine hK.out _ _ trivial (fun hHeld=>?_)
 clear hK K
 refine done_ (done_of HT_.out (by kernel_rfl)) ?_
 try go_wp2
 refine bodyPost_ret (results_cell_row rfl _ _ gb101 23 #[.int .i64 (wrap64 (Int.tdiv a0 t102)),.int .i64 (wrap64 (Int.tdiv a1 t102))] (0,0) _ rfl (by (with_reducible repeat (first | refine blk_drewN ?_ _ | refine blk_drew ?_ | refine blk_alloc ?_ _));refine blk_put (cs:=#[.int .i64 (wrap64 (Int.tdiv a0 t102)),.int .i64 0]) ?_ 1 _ rfl;(with_reducible repeat (first | refine blk_drewN ?_ _ | refine blk_drew ?_ | refine blk_alloc ?_ _));refine blk_put (cs:=#[.int .i64 0,.int .i64 0]) ?_ 0 _ rfl;(with_reducible repeat (first | refine blk_drewN ?_ _ | refine blk_drew ?_ | refine blk_alloc ?_ _));exact BK101.out) Try.underlying23 rfl (by kernel_rfl)) rfl ?_
 exact ⟨by first | rfl | (simp [errW_none,errW_some] <;> rfl) | (simp only [← hji3];first | rfl | (simp [errW_none,errW_some] <;> rfl)) | (simp [*,errW_none,errW_some] <;> rfl),by repeat (first | (with_reducible first | exact HB.out | apply below_alloc | apply pw_below_drewN | apply below_drew1 | refine below_set ?_ GE101.out) | exact HB.out)⟩
end Go.Proofs.Ytjohcjfmlhihbaa.G
namespace Go.Proofs.Ytjohcjfmlhihbaa.G
open Go.RowKit Go.Proofs.YtjohcjfmlhihbaaW.PrintWords Go.Proofs.YtjohcjfmlhihbaaW.PrintLast Go.Proofs.YtjohcjfmlhihbaaW.PrintMore
set_option maxHeartbeats 8000000
set_option maxRecDepth 100000
attribute [local go_sem] cond_true cond_false fld23_0 fld23_1 fld45_0 fld45_1 fld109_0 fld109_1 fld94_0 fld94_1 max2_int min2_int max_two min_two max_three min_three max_four min_four
def shares_add.f (k:Nat) (a0_0:Int) (a0_1:Int) (a1_0:Int) (a1_1:Int):Option (Int × Int):=(shares_gcd.f k a0_1 a1_1).bind fun t106=>(if t106 = 0 then (none) else ((shares_frac.f k (wrap64 ((wrap64 (a0_0 * (wrap64 (Int.tdiv a1_1 t106)))) + (wrap64 (a1_0 * (wrap64 (Int.tdiv a0_1 t106)))))) (wrap64 ((wrap64 (Int.tdiv a0_1 t106)) * a1_1))).bind fun bt107=>(some (bt107.1,bt107.2))))
theorem shares_add.mono:∀ a0 a1 a2 a3 k,LeO (shares_add.f k a0 a1 a2 a3) (shares_add.f (k + 1) a0 a1 a2 a3):=by
 intro a0 a1 a2 a3 k
 unfold shares_add.f
 repeat' first
   | (with_reducible first | exact shares_frac.mono _ _ _ | exact shares_gcd.mono _ _ _ | exact LeO.refl _ | exact LeO.none _ | refine LeO.ite ?_ ?_ | refine LeO.bind ?_ (fun _=>?_))
   | exact LeO.none _ | refine LeO.ite ?_ ?_ | refine LeO.bind ?_ (fun _=>?_)
def shares_add.T2:Bool × List (List Nat × List Nat):=(true,[([],[]),([0],[0]),([],[]),([2],[2]),([],[]),([3,4],[3,4]),([1,5],[1,5]),([],[]),([7],[7]),([],[]),([9],[9]),([],[]),([10,11],[10,11]),([8,12],[8,12]),([6,13],[6,13]),([],[]),([15],[15]),([],[]),([16,17],[16,17]),([],[]),([19],[19]),([18,20],[18,20]),([14,21],[14,21]),([22,22,0,1,2,3,4,5,6,7,8,9,10,11,12,13,14,15,16,17,18,19,20,21,22],[22])])
def shares_add.B2:List Nat:=[0,1,0,4,0,28,63,0,128,0,512,0,3584,8064,16383,0,32768,0,229376,0,524288,2064384,4194303,8388607]
theorem shares_add.tab2:rtab .any (opsOf Try.f88 2) = shares_add.T2:=by kernel_rfl
theorem shares_add.bits2:waitsOk shares_add.T2.2 shares_add.B2 = true:=by kernel_rfl
theorem shares_add.calls (k:Nat) (a0_0:Int) (a0_1:Int) (a1_0:Int) (a1_1:Int) (r1:Int) (r2:Int) (w:World) (h:shares_add.f k a0_0 a0_1 a1_0 a1_1 = some (r1,r2)) :
  Calls Try.prog 88 #[.agg #[.int .i64 a0_0,.int .i64 a0_1],.agg #[.int .i64 a1_0,.int .i64 a1_1]] w fun e w'=>e = .returned (.agg #[.int .i64 r1,.int .i64 r2]) ∧ Below w.heap.size w w':=by
 have hu23:=Try.underlying23
 have HB:=A_ (Below.refl w.heap.size w)
 have H:((shares_gcd.f k a0_1 a1_1).bind fun t106=>(if t106 = 0 then (none) else ((shares_frac.f k (wrap64 ((wrap64 (a0_0 * (wrap64 (Int.tdiv a1_1 t106)))) + (wrap64 (a1_0 * (wrap64 (Int.tdiv a0_1 t106)))))) (wrap64 ((wrap64 (Int.tdiv a0_1 t106)) * a1_1))).bind fun bt107=>(some (bt107.1,bt107.2))))) = some (r1,r2):=h
 clear h
 replace H:=Option.bind_eq_some_iff.mp H
 obtain ⟨t106,A30,H⟩:=H
 replace H:(if t106 = 0 then (none) else ((shares_frac.f k (wrap64 ((wrap64 (a0_0 * (wrap64 (Int.tdiv a1_1 t106)))) + (wrap64 (a1_0 * (wrap64 (Int.tdiv a0_1 t106)))))) (wrap64 ((wrap64 (Int.tdiv a0_1 t106)) * a1_1))).bind fun bt107=>(some (bt107.1,bt107.2)))) = some (r1,r2):=H
 have A3:=A_ A30
 clear A30
 replace H:=ge H
 obtain ⟨c4,H⟩:=H
 have c4b0:(t106 == 0) = false:=beq_eq_false_iff_ne.mpr c4
 have c4b1:(t106 != 0) = true:=bne_iff_ne.mpr c4
 replace H:=Option.bind_eq_some_iff.mp H
 obtain ⟨⟨t107,t108⟩,A50,H⟩:=H
 dsimp only at H
 have A5:=A_ A50
 clear A50
 simp only [Option.some.injEq,Prod.mk.injEq] at H
 obtain ⟨rfl,rfl⟩:=H
 go_enter Try.func88,Try.ntmps88
 try go_wp2_with (first | ((with_reducible refine gate_dst (N:=2) rfl ?_);refine bx 2 #[.int .i64 a0_0,.int .i64 a0_1] 23 ?_;intro gb103 hg w6 hbox hb;have BK103:=A_ hbox;have GW103:=gw hg HB;have GE103:=GW103;replace HB:=bB HB hb;clear hb hbox hg) | ((with_reducible refine gate_dst (N:=3) rfl ?_);refine bx 3 #[.int .i64 a1_0,.int .i64 a1_1] 23 ?_;intro gb104 hg w7 hbox hb;have BK104:=A_ hbox;have GW104:=gw hg HB;have GE104:=GW104;have NB103_104:=nl hg BK103;have NB104_103:=ng hg BK103;replace BK103:=kB BK103 hb;replace HB:=bB HB hb;clear hb hbox hg) | ((with_reducible refine gate_dst (N:=4) rfl ?_);refine bx 4 #[.int .i64 0,.int .i64 0] 23 ?_;intro gb105 hg w8 hbox hb;have BK105:=A_ hbox;have GW105:=gw hg HB;have GE105:=GW105;have NB103_105:=nl hg BK103;have NB105_103:=ng hg BK103;have NB104_105:=nl hg BK104;have NB105_104:=ng hg BK104;replace BK103:=kB BK103 hb;replace BK104:=kB BK104 hb;replace HB:=bB HB hb;clear hb hbox hg;have hnb9:=NB103_104.out;have hnc9:=NB104_103.out;have hnb10:=NB103_105.out;have hnc10:=NB105_103.out;have hcz11_0:w8.cell? ⟨gb103,0,none⟩ = some (.int .i64 a0_0):=cz BK103 0;have hcz11_1:w8.cell? ⟨gb103,1,none⟩ = some (.int .i64 a0_1):=cz BK103 1;have hfz11_0:=blk_frozen BK103.out 0;have hfz11_1:=blk_frozen BK103.out 1;have hnb12:=NB104_105.out;have hnc12:=NB105_104.out;have hcz13_0:w8.cell? ⟨gb104,0,none⟩ = some (.int .i64 a1_0):=cz BK104 0;have hcz13_1:w8.cell? ⟨gb104,1,none⟩ = some (.int .i64 a1_1):=cz BK104 1;have hfz13_0:=blk_frozen BK104.out 0;have hfz13_1:=blk_frozen BK104.out 1) | ((with_reducible refine gate_callee (f:=116) rfl ?_);refine gL (some 10) Try.func116 #[.int .i64 a0_1,.int .i64 a1_1] ?_;(with_reducible refine (shares_gcd.calls k a0_1 a1_1 t106 _ A3.out).mono ?_);rintro e w' ⟨rfl,⟨nd,rfl⟩⟩;refine ⟨_,rfl,?_⟩;(try (rw [drewN_self w8];generalize hq_:World.drewN w8 _ = w8;replace BK103:Aside0 (w8.heap[gb103]? = some (.cells #[.int .i64 a0_0,.int .i64 a0_1] 23 (0,0))):=⟨by rw [← hq_];exact BK103.out⟩;replace BK104:Aside0 (w8.heap[gb104]? = some (.cells #[.int .i64 a1_0,.int .i64 a1_1] 23 (0,0))):=⟨by rw [← hq_];exact BK104.out⟩;replace BK105:Aside0 (w8.heap[gb105]? = some (.cells #[.int .i64 0,.int .i64 0] 23 (0,0))):=⟨by rw [← hq_];exact BK105.out⟩;replace HB:Aside0 (Below w.heap.size w w8):=⟨by rw [← hq_];exact (bl HB)⟩;clear hq_))))
 replace BK103:=kD BK103
 replace BK104:=kD BK104
 replace BK105:=kD BK105
 replace HB:=bD HB
 refine st 24 (fun w'=>w'.cell? ⟨gb103,0,none⟩ = some (.int .i64 a0_0) ∧ w'.cell? ⟨gb103,1,none⟩ = some (.int .i64 a0_1) ∧ w'.cell? ⟨gb104,0,none⟩ = some (.int .i64 a1_0) ∧ w'.cell? ⟨gb104,1,none⟩ = some (.int .i64 a1_1)) [] shares_add.tab2 shares_add.bits2 (fun hHeld HT_ HW_=>?_)
 generalize w8.drew = w14 at BK103 BK104 BK105 HB hHeld ⊢
 refine pq 0 11 1 HT_ ?_
 refine pq 2 13 5 HT_ ?_
 refine pq 4 15 21 HT_ ?_
 refine pq 7 18 149 HT_ ?_
 refine pq 9 20 661 HT_ ?_
 refine pq 11 22 2709 HT_ ?_
 refine pq 15 26 35477 HT_ ?_
 refine pq 17 28 166549 HT_ ?_
 refine pq 19 30 690837 HT_ ?_
 refine tq 1 12 690839 HT_ HW_ hHeld ?_
 refine tq 3 14 690847 HT_ HW_ hHeld ?_
 refine pq 5 16 690879 HT_ ?_
 refine pq 6 17 690943 HT_ ?_
 refine tq 8 19 691199 HT_ HW_ hHeld ?_
 refine tq 10 21 692223 HT_ HW_ hHeld ?_
 refine pq 12 23 696319 HT_ ?_
 refine pq 13 24 704511 HT_ ?_
 refine pq 14 25 720895 HT_ ?_
 refine tq 16 27 786431 HT_ HW_ hHeld ?_
 refine pq 18 29 1048575 HT_ ?_
 refine tq 20 31 2097151 HT_ HW_ hHeld ?_
 refine pq 21 32 4194303 HT_ ?_
 refine oq 22 33 8388607 HT_ (fun K hK=>?_)
 refine gq Try.func117 #[.int .i64 (wrap64 ((wrap64 (a0_0 * (wrap64 (Int.tdiv a1_1 t106)))) + (wrap64 (a1_0 * (wrap64 (Int.tdiv a0_1 t106)))))),.int .i64 (wrap64 ((wrap64 (Int.tdiv a0_1 t106)) * a1_1))] ?_
 with_reducible refine (shares_frac.calls k (wrap64 ((wrap64 (a0_0 * (wrap64 (Int.tdiv a1_1 t106)))) + (wrap64 (a1_0 * (wrap64 (Int.tdiv a0_1 t106)))))) (wrap64 ((wrap64 (Int.tdiv a0_1 t106)) * a1_1)) t107 t108 _ A5.out).mono ?_
 rintro e w15 ⟨rfl,hb⟩
 refine ⟨_,rfl,?_⟩
 replace BK103:=kB BK103 hb
 replace BK104:=kB BK104 hb
 replace BK105:=kB BK105 hb
 replace HB:=bB HB hb
 (try clear hb)
 refine hz hK (fun hHeld=>?_)
 clear hK K
 refine nq 33 ?_
 refine one_ (i:=23) (N:=none) (ba 24 16777215) rfl rfl (one_of HT_.out (by kernel_rfl)) (by decide) (fun K hK=>?_)
 have hs16:w15.cell? ⟨gb105,0,none⟩ = some (.int .i64 0):=cz BK105 0
 have hfs16:=blk_frozen BK105.out 0
 have hns16_0:=NB103_105.out
 have hns16_1:=NB104_105.out
 have hms16_0:=NB105_103.out
 have hms16_1:=NB105_104.out
 have hs17:w15.cell? ⟨gb105,1,none⟩ = some (.int .i64 0):=cz BK105 1
 have hfs17:=blk_frozen BK105.out 1
 have hns17_0:=NB103_105.out
 have hns17_1:=NB104_105.out
 have hms17_0:=NB105_103.out
 have hms17_1:=NB105_104.out
 refine skip_ (w1:=?_) (by rfl) rfl ?_ ?_
 rotate_left
 ·go_simp
  rfl
 refine hK.out _ _ ⟨((cell_far (p:=⟨gb105,_,none⟩) NB103_105.out _).trans (((cell_far (p:=⟨gb105,_,none⟩) NB103_105.out _).trans (hHeld.1)))),((cell_far (p:=⟨gb105,_,none⟩) NB103_105.out _).trans (((cell_far (p:=⟨gb105,_,none⟩) NB103_105.out _).trans (hHeld.2.1)))),((cell_far (p:=⟨gb105,_,none⟩) NB104_105.out _).trans (((cell_far (p:=⟨gb105,_,none⟩) NB104_105.out _).trans (hHeld.2.2.1)))),((cell_far (p:=⟨gb105,_,none⟩) NB104_105.out _).trans (((cell_far (p:=⟨gb105,_,none⟩) NB104_105.out _).trans (hHeld.2.2.2))))⟩ (fun hHeld=>?_)
 clear hK K
 refine done_ (done_of HT_.out (by kernel_rfl)) ?_
 try go_wp2
 refine bodyPost_ret (results_cell_row rfl _ _ gb105 23 #[.int .i64 t107,.int .i64 t108] (0,0) _ rfl (by (with_reducible repeat (first | refine blk_drewN ?_ _ | refine blk_drew ?_ | refine blk_alloc ?_ _));refine blk_put (cs:=#[.int .i64 t107,.int .i64 0]) ?_ 1 _ rfl;(with_reducible repeat (first | refine blk_drewN ?_ _ | refine blk_drew ?_ | refine blk_alloc ?_ _));refine blk_put (cs:=#[.int .i64 0,.int .i64 0]) ?_ 0 _ rfl;(with_reducible repeat (first | refine blk_drewN ?_ _ | refine blk_drew ?_ | refine blk_alloc ?_ _));exact BK105.out) Try.underlying23 rfl (by kernel_rfl)) rfl ?_
 exact ⟨rfl,bl HB⟩
end Go.Proofs.Ytjohcjfmlhihbaa.G
namespace Go.Proofs.Ytjohcjfmlhihbaa.G
open Go.RowKit Go.Proofs.YtjohcjfmlhihbaaW.PrintWords Go.Proofs.YtjohcjfmlhihbaaW.PrintLast Go.Proofs.YtjohcjfmlhihbaaW.PrintMore
set_option maxHeartbeats 8000000
set_option maxRecDepth 100000
attribute [local go_sem] cond_true cond_false fld23_0 fld23_1 fld45_0 fld45_1 fld109_0 fld109_1 fld94_0 fld94_1 max2_int min2_int max_two min_two max_three min_three max_four min_four   -- for this text's walks alone
def shares_whole.f (a0:Int):Option (Int × Int):=some (a0,1)
theorem shares_whole.calls (a0:Int) (r1:Int) (r2:Int) (w:World) (h:shares_whole.f a0 = some (r1,r2)) :
  Calls Try.prog 64 #[.int .i64 a0] w fun e w'=>e = .returned (.agg #[.int .i64 r1,.int .i64 r2]) ∧ Below w.heap.size w w':=by
 have hu23:=Try.underlying23
 have HB:=Aside0.mk (Below.refl w.heap.size w)
 have H:(some (a0,1)) = some (r1,r2):=h
 clear h
 simp only [Option.some.injEq,Prod.mk.injEq] at H
 obtain ⟨rfl,rfl⟩:=H
 go_enter Try.func64,Try.ntmps64
 go_wp2_with (first | ((with_reducible refine gate_dst (N:=2) rfl ?_);refine box_event ?hg (N:=2) ?hd (cs:=#[.int .i64 0,.int .i64 0]) (t:=23) ?hr ?_;(case hd=>rfl);(case hg=>rfl);(case hr=>first | (go_simp;done) | (go_simp;rfl));intro gb139 hg w2 hbox hb;have n0_:=Aside0.mk (below_step (by repeat (first | (with_reducible first | exact HB.out | apply below_alloc | apply pw_below_drewN | apply below_drew1) | exact HB.out)) hb);have n1_:=Aside0.mk (hbox);have n2_:=Aside0.mk ((by rw [hg];exact (below_size (by repeat (first | (with_reducible first | exact HB.out | apply below_alloc | apply pw_below_drewN | apply below_drew1) | exact HB.out))):w.heap.size ≤ gb139));have n3_:=Aside0.mk ((by rw [hg];exact (below_size (by repeat (first | (with_reducible first | exact HB.out | apply below_alloc | apply pw_below_drewN | apply below_drew1) | exact HB.out))):w.heap.size ≤ gb139));clear HB;have HB:=n0_;have BK139:=n1_;have GW139:=n2_;have GE139:=n3_;clear n0_ n1_ n2_ n3_;clear hb hbox hg;have hcz3_0:w2.cell? ⟨gb139,0,none⟩ = some (.int .i64 0):=(blk_cell BK139.out 0).trans rfl;have hcz3_1:w2.cell? ⟨gb139,1,none⟩ = some (.int .i64 0):=(blk_cell BK139.out 1).trans rfl;have hfz3_0:=blk_frozen BK139.out 0;have hfz3_1:=blk_frozen BK139.out 1))
 refine bodyPost_ret (results_cell_row rfl _ _ gb139 23 #[.int .i64 a0,.int .i64 1] (0,0) _ rfl (by (with_reducible repeat (first | refine blk_drewN ?_ _ | refine blk_drew ?_ | refine blk_alloc ?_ _));refine blk_put (cs:=#[.int .i64 a0,.int .i64 0]) ?_ 1 _ rfl;(with_reducible repeat (first | refine blk_drewN ?_ _ | refine blk_drew ?_ | refine blk_alloc ?_ _));refine blk_put (cs:=#[.int .i64 0,.int .i64 0]) ?_ 0 _ rfl;(with_reducible repeat (first | refine blk_drewN ?_ _ | refine blk_drew ?_ | refine blk_alloc ?_ _));exact BK139.out) Try.underlying23 rfl (by kernel_rfl)) rfl ?_
 exact ⟨by first | rfl | (simp [errW_none,errW_some] <;> rfl) | (simp [*,errW_none,errW_some] <;> rfl),by repeat (first | (with_reducible first | exact HB.out | apply below_alloc | apply pw_below_drewN | apply below_drew1 | refine below_set ?_ GE139.out) | exact HB.out)⟩
def shares_minus.f (k:Nat) (a0_0:Int) (a0_1:Int) (a1_0:Int) (a1_1:Int):Option (Int × Int):=(shares_add.f k a0_0 a0_1 (wrap64 (-a1_0)) a1_1).bind fun bt112=>(some (bt112.1,bt112.2))
theorem shares_minus.mono:∀ a0 a1 a2 a3 k,LeO (shares_minus.f k a0 a1 a2 a3) (shares_minus.f (k + 1) a0 a1 a2 a3):=by
 intro a0 a1 a2 a3 k
 unfold shares_minus.f
 repeat' first
   | (with_reducible exact shares_add.mono _ _ _ _ _)
   | (with_reducible exact LeO.refl _)
   | (with_reducible exact LeO.none _)
   | (with_reducible refine LeO.ite ?_ ?_)
   | (with_reducible refine LeO.bind ?_ (fun _=>?_))
   | exact shares_add.mono _ _ _ _ _
   | exact LeO.none _
   | refine LeO.ite ?_ ?_
   | refine LeO.bind ?_ (fun _=>?_)
theorem shares_minus.calls (k:Nat) (a0_0:Int) (a0_1:Int) (a1_0:Int) (a1_1:Int) (r1:Int) (r2:Int) (w:World) (h:shares_minus.f k a0_0 a0_1 a1_0 a1_1 = some (r1,r2)) :
  Calls Try.prog 95 #[.agg #[.int .i64 a0_0,.int .i64 a0_1],.agg #[.int .i64 a1_0,.int .i64 a1_1]] w fun e w'=>e = .returned (.agg #[.int .i64 r1,.int .i64 r2]) ∧ Below w.heap.size w w':=by
 have hu23:=Try.underlying23
 have HB:=A_ (Below.refl w.heap.size w)
 have H:((shares_add.f k a0_0 a0_1 (wrap64 (-a1_0)) a1_1).bind fun bt112=>(some (bt112.1,bt112.2))) = some (r1,r2):=h
 clear h
 replace H:=Option.bind_eq_some_iff.mp H
 obtain ⟨⟨t112,t113⟩,A30,H⟩:=H
 replace H:(some (t112,t113)) = some (r1,r2):=H
 have A3:=A_ A30
 clear A30
 simp only [Option.some.injEq,Prod.mk.injEq] at H
 obtain ⟨rfl,rfl⟩:=H
 go_enter Try.func95,Try.ntmps95
 go_wp2_with (first | ((with_reducible refine gate_dst (N:=2) rfl ?_);refine box_event ?hg (N:=2) ?hd (cs:=#[.int .i64 a0_0,.int .i64 a0_1]) (t:=23) ?hr ?_;(case hd=>rfl);(case hg=>rfl);(case hr=>first | (go_simp;done) | (go_simp;rfl));intro gb109 hg w4 hbox hb;have BK109:=A_ hbox;have GW109:=gw hg HB;have GE109:=GW109;replace HB:=bB HB hb;clear hb hbox hg) | ((with_reducible refine gate_dst (N:=3) rfl ?_);refine box_event ?hg (N:=3) ?hd (cs:=#[.int .i64 a1_0,.int .i64 a1_1]) (t:=23) ?hr ?_;(case hd=>rfl);(case hg=>rfl);(case hr=>first | (go_simp;done) | (go_simp;rfl));intro gb110 hg w5 hbox hb;have BK110:=A_ hbox;have GW110:=gw hg HB;have GE110:=GW110;have NB109_110:=nl hg BK109;have NB110_109:=ng hg BK109;replace BK109:=kB BK109 hb;replace HB:=bB HB hb;clear hb hbox hg) | ((with_reducible refine gate_dst (N:=4) rfl ?_);refine box_event ?hg (N:=4) ?hd (cs:=#[.int .i64 0,.int .i64 0]) (t:=23) ?hr ?_;(case hd=>rfl);(case hg=>rfl);(case hr=>first | (go_simp;done) | (go_simp;rfl));intro gb111 hg w6 hbox hb;have BK111:=A_ hbox;have GW111:=gw hg HB;have GE111:=GW111;have NB109_111:=nl hg BK109;have NB111_109:=ng hg BK109;have NB110_111:=nl hg BK110;have NB111_110:=ng hg BK110;replace BK109:=kB BK109 hb;replace BK110:=kB BK110 hb;replace HB:=bB HB hb;clear hb hbox hg;have hnb7:=NB109_110.out;have hnc7:=NB110_109.out;have hnb8:=NB109_111.out;have hnc8:=NB111_109.out;have hcz9_0:w6.cell? ⟨gb109,0,none⟩ = some (.int .i64 a0_0):=cz BK109 0;have hcz9_1:w6.cell? ⟨gb109,1,none⟩ = some (.int .i64 a0_1):=cz BK109 1;have hfz9_0:=blk_frozen BK109.out 0;have hfz9_1:=blk_frozen BK109.out 1;have hnb10:=NB110_111.out;have hnc10:=NB111_110.out;have hcz11_0:w6.cell? ⟨gb110,0,none⟩ = some (.int .i64 a1_0):=cz BK110 0;have hcz11_1:w6.cell? ⟨gb110,1,none⟩ = some (.int .i64 a1_1):=cz BK110 1;have hfz11_0:=blk_frozen BK110.out 0;have hfz11_1:=blk_frozen BK110.out 1) | ((with_reducible refine gate_callee (f:=88) rfl ?_);refine goesL_ (some 12) rfl rfl Try.func88 (by kernel_rfl) rfl #[.agg #[.int .i64 a0_0,.int .i64 a0_1],.agg #[.int .i64 (wrap64 (-a1_0)),.int .i64 a1_1]] rfl (by (try simp only [List.map_toArray,List.map_cons,List.map_nil]);first | done | rfl | (simp only [List.length_drop,List.length_take];rfl)) ?_;(with_reducible refine (shares_add.calls k a0_0 a0_1 (wrap64 (-a1_0)) a1_1 t112 t113 _ A3.out).mono ?_);rintro e w12 ⟨rfl,hb⟩;refine ⟨_,rfl,?_⟩;replace BK109:=kB BK109 hb;replace BK110:=kB BK110 hb;replace BK111:=kB BK111 hb;replace HB:=bB HB hb;(try clear hb);have hcz13_0:w12.cell? ⟨gb111,0,none⟩ = some (.int .i64 0):=cz BK111 0;have hcz13_1:w12.cell? ⟨gb111,1,none⟩ = some (.int .i64 0):=cz BK111 1;have hfz13_0:=blk_frozen BK111.out 0;have hfz13_1:=blk_frozen BK111.out 1))
 refine bodyPost_ret (results_cell_row rfl _ _ gb111 23 #[.int .i64 t112,.int .i64 t113] (0,0) _ rfl (by (with_reducible repeat (first | refine blk_drewN ?_ _ | refine blk_drew ?_ | refine blk_alloc ?_ _));refine blk_put (cs:=#[.int .i64 t112,.int .i64 0]) ?_ 1 _ rfl;(with_reducible repeat (first | refine blk_drewN ?_ _ | refine blk_drew ?_ | refine blk_alloc ?_ _));refine blk_put (cs:=#[.int .i64 0,.int .i64 0]) ?_ 0 _ rfl;(with_reducible repeat (first | refine blk_drewN ?_ _ | refine blk_drew ?_ | refine blk_alloc ?_ _));exact BK111.out) Try.underlying23 rfl (by kernel_rfl)) rfl ?_
 exact ⟨by first | rfl | (simp [errW_none,errW_some] <;> rfl) | (simp [*,errW_none,errW_some] <;> rfl),by repeat (first | (with_reducible first | exact HB.out | apply below_alloc | apply pw_below_drewN | apply below_drew1 | refine below_set ?_ GE109.out | refine below_set ?_ GE110.out | refine below_set ?_ GE111.out) | exact HB.out)⟩
end Go.Proofs.Ytjohcjfmlhihbaa.G
namespace Go.Proofs.Ytjohcjfmlhihbaa.G
open Go.RowKit Go.Proofs.YtjohcjfmlhihbaaW.PrintWords Go.Proofs.YtjohcjfmlhihbaaW.PrintLast Go.Proofs.YtjohcjfmlhihbaaW.PrintMore
set_option maxHeartbeats 8000000
set_option maxRecDepth 100000
attribute [local go_sem] cond_true cond_false fld23_0 fld23_1 fld45_0 fld45_1 fld109_0 fld109_1 fld94_0 fld94_1 max2_int min2_int max_two min_two max_three min_three max_four min_four
def shares_garment_1.f (k:Nat) (a0:Int) (a1_0:Int) (a1_1:Int):Option (Int × Int):=(shares_whole.f a0).bind fun bt142=>((shares_minus.f k a1_0 a1_1 bt142.1 bt142.2).bind fun bt144=>(if bt144.1 < 0 then ((shares_whole.f 0).bind fun bt147=>(some (bt147.1,bt147.2))) else (some (bt144.1,bt144.2))))
theorem shares_garment_1.mono:∀ a0 a1 a2 k,LeO (shares_garment_1.f k a0 a1 a2) (shares_garment_1.f (k + 1) a0 a1 a2):=by
 intro a0 a1 a2 k
 unfold shares_garment_1.f
 repeat' first
   | (with_reducible first | exact shares_minus.mono _ _ _ _ _ | exact LeO.refl _ | exact LeO.none _ | refine LeO.ite ?_ ?_ | refine LeO.bind ?_ (fun _=>?_))
   | exact LeO.none _ | refine LeO.ite ?_ ?_ | refine LeO.bind ?_ (fun _=>?_)
theorem shares_garment_1.calls (k:Nat) (a0:Int) (a1_0:Int) (a1_1:Int) (r1:Int) (r2:Int) (w:World) (gb140:Nat) (BK0:w.heap[gb140]? = some (.cells #[.int .i64 a1_0,.int .i64 a1_1] 23 (0,0))) (h:shares_garment_1.f k a0 a1_0 a1_1 = some (r1,r2)) :
  Calls Try.prog 94 #[.int .i64 a0,.pointer (some ⟨gb140,0,none⟩)] w fun e w'=>e = .returned (.agg #[.int .i64 r1,.int .i64 r2]) ∧ Below w.heap.size w w':=by
 have hu23:=Try.underlying23
 have BK140:=A_ BK0
 clear BK0
 have HB:=A_ (Below.refl w.heap.size w)
 have H:((shares_whole.f a0).bind fun bt142=>((shares_minus.f k a1_0 a1_1 bt142.1 bt142.2).bind fun bt144=>(if bt144.1 < 0 then ((shares_whole.f 0).bind fun bt147=>(some (bt147.1,bt147.2))) else (some (bt144.1,bt144.2))))) = some (r1,r2):=h
 clear h
 replace H:=Option.bind_eq_some_iff.mp H
 obtain ⟨⟨t142,t143⟩,A30,H⟩:=H
 dsimp only at H
 have A3:=A_ A30
 clear A30
 replace H:=Option.bind_eq_some_iff.mp H
 obtain ⟨⟨t144,t145⟩,A40,H⟩:=H
 dsimp only at H
 have A4:=A_ A40
 clear A40
 by_cases c5:t144 < 0
 case neg =>
  rw [if_neg c5] at H
  have c5b0:=decide_eq_false c5
  clear c5
  simp only [Option.some.injEq,Prod.mk.injEq] at H
  obtain ⟨rfl,rfl⟩:=H
  go_enter Try.func94,Try.ntmps94
  try go_wp2_with (first | ((with_reducible refine gate_dst (N:=3) rfl ?_);refine bx 3 #[.int .i64 0,.int .i64 0] 23 ?_;intro gb141 hg w23 hbox hb;have BK141:=A_ hbox;have GW141:=gw hg HB;have GE141:=GW141;have NB140_141:=nl hg BK140;have NB141_140:=ng hg BK140;replace BK140:=kB BK140 hb;replace HB:=bB HB hb;clear hb hbox hg))
  replace BK140:=kD BK140
  replace BK141:=kD BK141
  replace HB:=bD HB
  refine start_ (n:=6) (S:=fun w'=>w'.cell? ⟨gb140,0,none⟩ = some (.int .i64 a1_0) ∧ w'.cell? ⟨gb140,1,none⟩ = some (.int .i64 a1_1)) (ds:=[]) (ba 6 0) (by kernel_rfl) rfl rfl ⟨cz BK140 0,cz BK140 1⟩ (fun hHeld=>?_)
  generalize w23.drew = w24 at BK140 BK141 HB hHeld ⊢
  refine pr 1 6 2 ?_
  refine tr 0 5 3 hHeld ?_
  refine join_ (σ:=Nat) 1 (ba 6 31) (fun s_=>[(7,.agg #[.int .i64 t142,.int .i64 t143]),(8,.agg #[.int .i64 t144,.int .i64 t145]),(4,.pointer (some ⟨s_,0,none⟩))]) (fun s_ w'=>(w'.cell? ⟨gb140,0,none⟩ = some (.int .i64 a1_0) ∧ w'.cell? ⟨gb140,1,none⟩ = some (.int .i64 a1_1)) ∧ (w'.heap[gb140]? = some (.cells #[.int .i64 a1_0,.int .i64 a1_1] 23 (0,0))) ∧ (w'.heap[gb141]? = some (.cells #[.int .i64 0,.int .i64 0] 23 (0,0))) ∧ (w'.heap[s_]? = some (.cells #[.int .i64 0,.int .i64 0] 23 (0,0))) ∧ (w.heap.size ≤ s_) ∧ (w.heap.size ≤ s_) ∧ (gb140 ≠ s_) ∧ (s_ ≠ gb140) ∧ (gb141 ≠ s_) ∧ (s_ ≠ gb141) ∧ (Below w.heap.size w w')) ?_ ?_
  rotate_left
  ·intro hCont
   refine two_ (i:=2) (j:=4) (Ni:=some 7) (Nj:=some 4) (ba 6 7) (ba 6 19) rfl rfl rfl rfl (by kernel_rfl) (by decide) (by decide) (fun K hK=>?_) (fun K hK=>?_)
   ·skip
    refine gq Try.func64 #[.int .i64 a0] ?_
    with_reducible refine (shares_whole.calls a0 t142 t143 _ A3.out).mono ?_
    rintro e w25 ⟨rfl,hb⟩
    refine ⟨_,rfl,?_⟩
    replace BK140:=kB BK140 hb
    replace BK141:=kB BK141 hb
    replace HB:=bB HB hb
    (try clear hb)
    refine hz hK (fun hHeld=>?_)
    clear hK K
    refine nq 7 ?_
    refine two_ (i:=3) (j:=4) (Ni:=some 8) (Nj:=some 4) (ba 6 15) (ba 6 23) rfl rfl rfl rfl (by kernel_rfl) (by decide) (by decide) (fun K hK=>?_) (fun K hK=>?_)
    ·skip
     refine gq Try.func95 #[.agg #[.int .i64 a1_0,.int .i64 a1_1],.agg #[.int .i64 t142,.int .i64 t143]] ?_
     with_reducible refine (shares_minus.calls k a1_0 a1_1 t142 t143 t144 t145 _ A4.out).mono ?_
     rintro e w26 ⟨rfl,hb⟩
     refine ⟨_,rfl,?_⟩
     replace BK140:=kB BK140 hb
     replace BK141:=kB BK141 hb
     replace HB:=bB HB hb
     (try clear hb)
     refine hz hK (fun hHeld=>?_)
     clear hK K
     refine nq 8 ?_
     refine os 4 4 31 (fun K hK=>?_)
     refine box_step ?hg (N:=4) ?hd (cs:=#[.int .i64 0,.int .i64 0]) (t:=23) ?hr ?_;(case hd=>rfl);(case hg=>rfl);(case hr=>first | (go_simp;done) | (go_simp;rfl))
     intro gb146 hg w27 hbox hb
     have BK146:=A_ hbox
     have GW146:=gw hg HB
     have GE146:=GW146
     have NB140_146:=nl hg BK140
     have NB146_140:=ng hg BK140
     have NB141_146:=nl hg BK141
     have NB146_141:=ng hg BK141
     replace BK140:=kB BK140 hb
     replace BK141:=kB BK141 hb
     replace HB:=bB HB hb
     clear hb hbox hg
     refine hz hK (fun hHeld=>?_)
     clear hK K
     refine nq 4 ?_
     exact norm_ (by simp only [putAll,Act.put,List.setIfInBounds_toArray,List.set_cons_zero,List.set_cons_succ]) (hCont gb146 _ ⟨hHeld,BK140.out,BK141.out,BK146.out,GW146.out,GE146.out,NB140_146.out,NB146_140.out,NB141_146.out,NB146_141.out,HB.out⟩)
    skip
    refine box_step ?hg (N:=4) ?hd (cs:=#[.int .i64 0,.int .i64 0]) (t:=23) ?hr ?_;(case hd=>rfl);(case hg=>rfl);(case hr=>first | (go_simp;done) | (go_simp;rfl))
    intro gb146 hg w26 hbox hb
    have BK146:=A_ hbox
    have GW146:=gw hg HB
    have GE146:=GW146
    have NB140_146:=nl hg BK140
    have NB146_140:=ng hg BK140
    have NB141_146:=nl hg BK141
    have NB146_141:=ng hg BK141
    replace BK140:=kB BK140 hb
    replace BK141:=kB BK141 hb
    replace HB:=bB HB hb
    clear hb hbox hg
    refine hz hK (fun hHeld=>?_)
    clear hK K
    refine nq 4 ?_
    refine os 3 8 31 (fun K hK=>?_)
    refine gq Try.func95 #[.agg #[.int .i64 a1_0,.int .i64 a1_1],.agg #[.int .i64 t142,.int .i64 t143]] ?_
    with_reducible refine (shares_minus.calls k a1_0 a1_1 t142 t143 t144 t145 _ A4.out).mono ?_
    rintro e w27 ⟨rfl,hb⟩
    refine ⟨_,rfl,?_⟩
    replace BK140:=kB BK140 hb
    replace BK141:=kB BK141 hb
    replace BK146:=kB BK146 hb
    replace HB:=bB HB hb
    (try clear hb)
    refine hz hK (fun hHeld=>?_)
    clear hK K
    refine nq 8 ?_
    exact norm_ (by simp only [putAll,Act.put,List.setIfInBounds_toArray,List.set_cons_zero,List.set_cons_succ]) (hCont gb146 _ ⟨hHeld,BK140.out,BK141.out,BK146.out,GW146.out,GE146.out,NB140_146.out,NB146_140.out,NB141_146.out,NB146_141.out,HB.out⟩)
   skip
   refine box_step ?hg (N:=4) ?hd (cs:=#[.int .i64 0,.int .i64 0]) (t:=23) ?hr ?_;(case hd=>rfl);(case hg=>rfl);(case hr=>first | (go_simp;done) | (go_simp;rfl))
   intro gb146 hg w25 hbox hb
   have BK146:=A_ hbox
   have GW146:=gw hg HB
   have GE146:=GW146
   have NB140_146:=nl hg BK140
   have NB146_140:=ng hg BK140
   have NB141_146:=nl hg BK141
   have NB146_141:=ng hg BK141
   replace BK140:=kB BK140 hb
   replace BK141:=kB BK141 hb
   replace HB:=bB HB hb
   clear hb hbox hg
   refine hz hK (fun hHeld=>?_)
   clear hK K
   refine nq 4 ?_
   refine os 2 7 23 (fun K hK=>?_)
   refine gq Try.func64 #[.int .i64 a0] ?_
   with_reducible refine (shares_whole.calls a0 t142 t143 _ A3.out).mono ?_
   rintro e w26 ⟨rfl,hb⟩
   refine ⟨_,rfl,?_⟩
   replace BK140:=kB BK140 hb
   replace BK141:=kB BK141 hb
   replace BK146:=kB BK146 hb
   replace HB:=bB HB hb
   (try clear hb)
   refine hz hK (fun hHeld=>?_)
   clear hK K
   refine nq 7 ?_
   refine os 3 8 31 (fun K hK=>?_)
   refine gq Try.func95 #[.agg #[.int .i64 a1_0,.int .i64 a1_1],.agg #[.int .i64 t142,.int .i64 t143]] ?_
   with_reducible refine (shares_minus.calls k a1_0 a1_1 t142 t143 t144 t145 _ A4.out).mono ?_
   rintro e w27 ⟨rfl,hb⟩
   refine ⟨_,rfl,?_⟩
   replace BK140:=kB BK140 hb
   replace BK141:=kB BK141 hb
   replace BK146:=kB BK146 hb
   replace HB:=bB HB hb
   (try clear hb)
   refine hz hK (fun hHeld=>?_)
   clear hK K
   refine nq 8 ?_
   exact norm_ (by simp only [putAll,Act.put,List.setIfInBounds_toArray,List.set_cons_zero,List.set_cons_succ]) (hCont gb146 _ ⟨hHeld,BK140.out,BK141.out,BK146.out,GW146.out,GE146.out,NB140_146.out,NB146_140.out,NB141_146.out,NB146_141.out,HB.out⟩)
  rintro gb146 w28 ⟨hS_,h0_,h1_,h2_,h3_,h4_,h5_,h6_,h7_,h8_,h9_⟩
  have BK146:Aside0 (w28.heap[gb146]? = some (.cells #[.int .i64 0,.int .i64 0] 23 (0,0))):=⟨h2_⟩
  have GW146:Aside0 (w.heap.size ≤ gb146):=⟨h3_⟩
  have GE146:Aside0 (w.heap.size ≤ gb146):=⟨h4_⟩
  have NB140_146:Aside0 (gb140 ≠ gb146):=⟨h5_⟩
  have NB146_140:Aside0 (gb146 ≠ gb140):=⟨h6_⟩
  have NB141_146:Aside0 (gb141 ≠ gb146):=⟨h7_⟩
  have NB146_141:Aside0 (gb146 ≠ gb141):=⟨h8_⟩
  replace BK140:Aside0 (w28.heap[gb140]? = some (.cells #[.int .i64 a1_0,.int .i64 a1_1] 23 (0,0))):=⟨h0_⟩
  replace BK141:Aside0 (w28.heap[gb141]? = some (.cells #[.int .i64 0,.int .i64 0] 23 (0,0))):=⟨h1_⟩
  replace HB:Aside0 (Below w.heap.size w w28):=⟨h9_⟩
  clear h0_ h1_ h2_ h3_ h4_ h5_ h6_ h7_ h8_ h9_
  have hHeld:w28.cell? ⟨gb140,0,none⟩ = some (.int .i64 a1_0) ∧ w28.cell? ⟨gb140,1,none⟩ = some (.int .i64 a1_1):=hS_
  refine norm_ (a':=?_) ?_ ?_
  rotate_left
  ·simp only [putAll,Act.put,List.setIfInBounds_toArray,List.set_cons_zero,List.set_cons_succ]
   rfl
  refine one_ (i:=5) (N:=none) (ba 6 63) rfl rfl (by kernel_rfl) (by decide) (fun K hK=>?_)
  have hs29:w28.cell? ⟨gb146,0,none⟩ = some (.int .i64 0):=cz BK146 0
  have hfs29:=blk_frozen BK146.out 0
  have hns29_0:=NB140_146.out
  have hns29_1:=NB141_146.out
  have hms29_0:=NB146_140.out
  have hms29_1:=NB146_141.out
  have hs30:w28.cell? ⟨gb146,1,none⟩ = some (.int .i64 0):=cz BK146 1
  have hfs30:=blk_frozen BK146.out 1
  have hns30_0:=NB140_146.out
  have hns30_1:=NB141_146.out
  have hms30_0:=NB146_140.out
  have hms30_1:=NB146_141.out
  refine skip_ (w1:=?_) (by rfl) rfl ?_ ?_
  rotate_left
  ·go_simp
   rfl
  refine hK.out _ _ ⟨((cell_far (p:=⟨gb146,_,none⟩) NB140_146.out _).trans (((cell_far (p:=⟨gb146,_,none⟩) NB140_146.out _).trans (hHeld.1)))),((cell_far (p:=⟨gb146,_,none⟩) NB140_146.out _).trans (((cell_far (p:=⟨gb146,_,none⟩) NB140_146.out _).trans (hHeld.2))))⟩ (fun hHeld=>?_)
  clear hK K
  refine done_ (by kernel_rfl) ?_
  have hnb31:=NB146_140.out
  have hnc31:=NB140_146.out
  have hnb32:=NB146_141.out
  have hnc32:=NB141_146.out
  have hcz33_0:w28.cell? ⟨gb146,0,none⟩ = some (.int .i64 0):=cz BK146 0
  have hcz33_1:w28.cell? ⟨gb146,1,none⟩ = some (.int .i64 0):=cz BK146 1
  have hfz33_0:=blk_frozen BK146.out 0
  have hfz33_1:=blk_frozen BK146.out 1
  have hnb34:=NB141_140.out
  have hnc34:=NB140_141.out
  have hcz35_0:w28.cell? ⟨gb141,0,none⟩ = some (.int .i64 0):=cz BK141 0
  have hcz35_1:w28.cell? ⟨gb141,1,none⟩ = some (.int .i64 0):=cz BK141 1
  have hfz35_0:=blk_frozen BK141.out 0
  have hfz35_1:=blk_frozen BK141.out 1
  try go_wp2
  refine bodyPost_ret (results_cell_row rfl _ _ gb141 23 #[.int .i64 t144,.int .i64 t145] (0,0) _ rfl (by refine blk_put (cs:=#[.int .i64 t144,.int .i64 0]) ?_ 1 _ rfl;refine blk_put (cs:=#[.int .i64 0,.int .i64 0]) ?_ 0 _ rfl;refine blk_far ?_ NB141_146.out _;refine blk_far ?_ NB141_146.out _;exact BK141.out) Try.underlying23 rfl (by kernel_rfl)) rfl ?_
  exact ⟨rfl,bl HB⟩
 rw [if_pos c5] at H
 have c5b0:=decide_eq_true c5
 clear c5
 replace H:=Option.bind_eq_some_iff.mp H
 obtain ⟨⟨t147,t148⟩,A60,H⟩:=H
 dsimp only at H
 have A6:=A_ A60
 clear A60
 simp only [Option.some.injEq,Prod.mk.injEq] at H
 obtain ⟨rfl,rfl⟩:=H
 go_enter Try.func94,Try.ntmps94
 try go_wp2_with (first | ((with_reducible refine gate_dst (N:=3) rfl ?_);refine bx 3 #[.int .i64 0,.int .i64 0] 23 ?_;intro gb141 hg w8 hbox hb;have BK141:=A_ hbox;have GW141:=gw hg HB;have GE141:=GW141;have NB140_141:=nl hg BK140;have NB141_140:=ng hg BK140;replace BK140:=kB BK140 hb;replace HB:=bB HB hb;clear hb hbox hg))
 replace BK140:=kD BK140
 replace BK141:=kD BK141
 replace HB:=bD HB
 refine start_ (n:=6) (S:=fun w'=>w'.cell? ⟨gb140,0,none⟩ = some (.int .i64 a1_0) ∧ w'.cell? ⟨gb140,1,none⟩ = some (.int .i64 a1_1)) (ds:=[]) (ba 6 0) (by kernel_rfl) rfl rfl ⟨cz BK140 0,cz BK140 1⟩ (fun hHeld=>?_)
 generalize w8.drew = w9 at BK140 BK141 HB hHeld ⊢
 refine pr 1 6 2 ?_
 refine tr 0 5 3 hHeld ?_
 refine join_ (σ:=Nat) 1 (ba 6 31) (fun s_=>[(7,.agg #[.int .i64 t142,.int .i64 t143]),(8,.agg #[.int .i64 t144,.int .i64 t145]),(4,.pointer (some ⟨s_,0,none⟩))]) (fun s_ w'=>(w'.cell? ⟨gb140,0,none⟩ = some (.int .i64 a1_0) ∧ w'.cell? ⟨gb140,1,none⟩ = some (.int .i64 a1_1)) ∧ (w'.heap[gb140]? = some (.cells #[.int .i64 a1_0,.int .i64 a1_1] 23 (0,0))) ∧ (w'.heap[gb141]? = some (.cells #[.int .i64 0,.int .i64 0] 23 (0,0))) ∧ (w'.heap[s_]? = some (.cells #[.int .i64 0,.int .i64 0] 23 (0,0))) ∧ (w.heap.size ≤ s_) ∧ (w.heap.size ≤ s_) ∧ (gb140 ≠ s_) ∧ (s_ ≠ gb140) ∧ (gb141 ≠ s_) ∧ (s_ ≠ gb141) ∧ (Below w.heap.size w w')) ?_ ?_
 rotate_left
 ·intro hCont
  refine two_ (i:=2) (j:=4) (Ni:=some 7) (Nj:=some 4) (ba 6 7) (ba 6 19) rfl rfl rfl rfl (by kernel_rfl) (by decide) (by decide) (fun K hK=>?_) (fun K hK=>?_)
  ·skip
   refine gq Try.func64 #[.int .i64 a0] ?_
   with_reducible refine (shares_whole.calls a0 t142 t143 _ A3.out).mono ?_
   rintro e w10 ⟨rfl,hb⟩
   refine ⟨_,rfl,?_⟩
   replace BK140:=kB BK140 hb
   replace BK141:=kB BK141 hb
   replace HB:=bB HB hb
   (try clear hb)
   refine hz hK (fun hHeld=>?_)
   clear hK K
   refine nq 7 ?_
   refine two_ (i:=3) (j:=4) (Ni:=some 8) (Nj:=some 4) (ba 6 15) (ba 6 23) rfl rfl rfl rfl (by kernel_rfl) (by decide) (by decide) (fun K hK=>?_) (fun K hK=>?_)
   ·skip
    refine gq Try.func95 #[.agg #[.int .i64 a1_0,.int .i64 a1_1],.agg #[.int .i64 t142,.int .i64 t143]] ?_
    with_reducible refine (shares_minus.calls k a1_0 a1_1 t142 t143 t144 t145 _ A4.out).mono ?_
    rintro e w11 ⟨rfl,hb⟩
    refine ⟨_,rfl,?_⟩
    replace BK140:=kB BK140 hb
    replace BK141:=kB BK141 hb
    replace HB:=bB HB hb
    (try clear hb)
    refine hz hK (fun hHeld=>?_)
    clear hK K
    refine nq 8 ?_
    refine os 4 4 31 (fun K hK=>?_)
    refine box_step ?hg (N:=4) ?hd (cs:=#[.int .i64 0,.int .i64 0]) (t:=23) ?hr ?_;(case hd=>rfl);(case hg=>rfl);(case hr=>first | (go_simp;done) | (go_simp;rfl))
    intro gb146 hg w12 hbox hb
    have BK146:=A_ hbox
    have GW146:=gw hg HB
    have GE146:=GW146
    have NB140_146:=nl hg BK140
    have NB146_140:=ng hg BK140
    have NB141_146:=nl hg BK141
    have NB146_141:=ng hg BK141
    replace BK140:=kB BK140 hb
    replace BK141:=kB BK141 hb
    replace HB:=bB HB hb
    clear hb hbox hg
    refine hz hK (fun hHeld=>?_)
    clear hK K
    refine nq 4 ?_
    exact norm_ (by simp only [putAll,Act.put,List.setIfInBounds_toArray,List.set_cons_zero,List.set_cons_succ]) (hCont gb146 _ ⟨hHeld,BK140.out,BK141.out,BK146.out,GW146.out,GE146.out,NB140_146.out,NB146_140.out,NB141_146.out,NB146_141.out,HB.out⟩)
   skip
   refine box_step ?hg (N:=4) ?hd (cs:=#[.int .i64 0,.int .i64 0]) (t:=23) ?hr ?_;(case hd=>rfl);(case hg=>rfl);(case hr=>first | (go_simp;done) | (go_simp;rfl))
   intro gb146 hg w11 hbox hb
   have BK146:=A_ hbox
   have GW146:=gw hg HB
   have GE146:=GW146
   have NB140_146:=nl hg BK140
   have NB146_140:=ng hg BK140
   have NB141_146:=nl hg BK141
   have NB146_141:=ng hg BK141
   replace BK140:=kB BK140 hb
   replace BK141:=kB BK141 hb
   replace HB:=bB HB hb
   clear hb hbox hg
   refine hz hK (fun hHeld=>?_)
   clear hK K
   refine nq 4 ?_
   refine os 3 8 31 (fun K hK=>?_)
   refine gq Try.func95 #[.agg #[.int .i64 a1_0,.int .i64 a1_1],.agg #[.int .i64 t142,.int .i64 t143]] ?_
   with_reducible refine (shares_minus.calls k a1_0 a1_1 t142 t143 t144 t145 _ A4.out).mono ?_
   rintro e w12 ⟨rfl,hb⟩
   refine ⟨_,rfl,?_⟩
   replace BK140:=kB BK140 hb
   replace BK141:=kB BK141 hb
   replace BK146:=kB BK146 hb
   replace HB:=bB HB hb
   (try clear hb)
   refine hz hK (fun hHeld=>?_)
   clear hK K
   refine nq 8 ?_
   exact norm_ (by simp only [putAll,Act.put,List.setIfInBounds_toArray,List.set_cons_zero,List.set_cons_succ]) (hCont gb146 _ ⟨hHeld,BK140.out,BK141.out,BK146.out,GW146.out,GE146.out,NB140_146.out,NB146_140.out,NB141_146.out,NB146_141.out,HB.out⟩)
  skip
  refine box_step ?hg (N:=4) ?hd (cs:=#[.int .i64 0,.int .i64 0]) (t:=23) ?hr ?_;(case hd=>rfl);(case hg=>rfl);(case hr=>first | (go_simp;done) | (go_simp;rfl))
  intro gb146 hg w10 hbox hb
  have BK146:=A_ hbox
  have GW146:=gw hg HB
  have GE146:=GW146
  have NB140_146:=nl hg BK140
  have NB146_140:=ng hg BK140
  have NB141_146:=nl hg BK141
  have NB146_141:=ng hg BK141
  replace BK140:=kB BK140 hb
  replace BK141:=kB BK141 hb
  replace HB:=bB HB hb
  clear hb hbox hg
  refine hz hK (fun hHeld=>?_)
  clear hK K
  refine nq 4 ?_
  refine os 2 7 23 (fun K hK=>?_)
  refine gq Try.func64 #[.int .i64 a0] ?_
  with_reducible refine (shares_whole.calls a0 t142 t143 _ A3.out).mono ?_
  rintro e w11 ⟨rfl,hb⟩
  refine ⟨_,rfl,?_⟩
  replace BK140:=kB BK140 hb
  replace BK141:=kB BK141 hb
  replace BK146:=kB BK146 hb
  replace HB:=bB HB hb
  (try clear hb)
  refine hz hK (fun hHeld=>?_)
  clear hK K
  refine nq 7 ?_
  refine os 3 8 31 (fun K hK=>?_)
  refine gq Try.func95 #[.agg #[.int .i64 a1_0,.int .i64 a1_1],.agg #[.int .i64 t142,.int .i64 t143]] ?_
  with_reducible refine (shares_minus.calls k a1_0 a1_1 t142 t143 t144 t145 _ A4.out).mono ?_
  rintro e w12 ⟨rfl,hb⟩
  refine ⟨_,rfl,?_⟩
  replace BK140:=kB BK140 hb
  replace BK141:=kB BK141 hb
  replace BK146:=kB BK146 hb
  replace HB:=bB HB hb
  (try clear hb)
  refine hz hK (fun hHeld=>?_)
  clear hK K
  refine nq 8 ?_
  exact norm_ (by simp only [putAll,Act.put,List.setIfInBounds_toArray,List.set_cons_zero,List.set_cons_succ]) (hCont gb146 _ ⟨hHeld,BK140.out,BK141.out,BK146.out,GW146.out,GE146.out,NB140_146.out,NB146_140.out,NB141_146.out,NB146_141.out,HB.out⟩)
 rintro gb146 w13 ⟨hS_,h0_,h1_,h2_,h3_,h4_,h5_,h6_,h7_,h8_,h9_⟩
 have BK146:Aside0 (w13.heap[gb146]? = some (.cells #[.int .i64 0,.int .i64 0] 23 (0,0))):=⟨h2_⟩
 have GW146:Aside0 (w.heap.size ≤ gb146):=⟨h3_⟩
 have GE146:Aside0 (w.heap.size ≤ gb146):=⟨h4_⟩
 have NB140_146:Aside0 (gb140 ≠ gb146):=⟨h5_⟩
 have NB146_140:Aside0 (gb146 ≠ gb140):=⟨h6_⟩
 have NB141_146:Aside0 (gb141 ≠ gb146):=⟨h7_⟩
 have NB146_141:Aside0 (gb146 ≠ gb141):=⟨h8_⟩
 replace BK140:Aside0 (w13.heap[gb140]? = some (.cells #[.int .i64 a1_0,.int .i64 a1_1] 23 (0,0))):=⟨h0_⟩
 replace BK141:Aside0 (w13.heap[gb141]? = some (.cells #[.int .i64 0,.int .i64 0] 23 (0,0))):=⟨h1_⟩
 replace HB:Aside0 (Below w.heap.size w w13):=⟨h9_⟩
 clear h0_ h1_ h2_ h3_ h4_ h5_ h6_ h7_ h8_ h9_
 have hHeld:w13.cell? ⟨gb140,0,none⟩ = some (.int .i64 a1_0) ∧ w13.cell? ⟨gb140,1,none⟩ = some (.int .i64 a1_1):=hS_
 refine norm_ (a':=?_) ?_ ?_
 rotate_left
 ·simp only [putAll,Act.put,List.setIfInBounds_toArray,List.set_cons_zero,List.set_cons_succ]
  rfl
 refine one_ (i:=5) (N:=none) (ba 6 63) rfl rfl (by kernel_rfl) (by decide) (fun K hK=>?_)
 have hs14:w13.cell? ⟨gb146,0,none⟩ = some (.int .i64 0):=cz BK146 0
 have hfs14:=blk_frozen BK146.out 0
 have hns14_0:=NB140_146.out
 have hns14_1:=NB141_146.out
 have hms14_0:=NB146_140.out
 have hms14_1:=NB146_141.out
 have hs15:w13.cell? ⟨gb146,1,none⟩ = some (.int .i64 0):=cz BK146 1
 have hfs15:=blk_frozen BK146.out 1
 have hns15_0:=NB140_146.out
 have hns15_1:=NB141_146.out
 have hms15_0:=NB146_140.out
 have hms15_1:=NB146_141.out
 refine skip_ (w1:=?_) (by rfl) rfl ?_ ?_
 rotate_left
 ·go_simp
  rfl
 refine hK.out _ _ ⟨((cell_far (p:=⟨gb146,_,none⟩) NB140_146.out _).trans (((cell_far (p:=⟨gb146,_,none⟩) NB140_146.out _).trans (hHeld.1)))),((cell_far (p:=⟨gb146,_,none⟩) NB140_146.out _).trans (((cell_far (p:=⟨gb146,_,none⟩) NB140_146.out _).trans (hHeld.2))))⟩ (fun hHeld=>?_)
 clear hK K
 refine done_ (by kernel_rfl) ?_
 have hnb16:=NB146_140.out
 have hnc16:=NB140_146.out
 have hnb17:=NB146_141.out
 have hnc17:=NB141_146.out
 have hcz18_0:w13.cell? ⟨gb146,0,none⟩ = some (.int .i64 0):=cz BK146 0
 have hcz18_1:w13.cell? ⟨gb146,1,none⟩ = some (.int .i64 0):=cz BK146 1
 have hfz18_0:=blk_frozen BK146.out 0
 have hfz18_1:=blk_frozen BK146.out 1
 try go_wp2_with (first | ((with_reducible refine gate_callee (f:=64) rfl ?_);refine gL (some 12) Try.func64 #[.int .i64 0] ?_;(with_reducible refine (shares_whole.calls 0 t147 t148 _ A6.out).mono ?_);rintro e w19 ⟨rfl,hb⟩;refine ⟨_,rfl,?_⟩;replace BK140:=kB BK140 hb;replace BK141:=kB BK141 hb;replace BK146:=A_ (blk_below (g:=gb146) (o:=.cells #[.int .i64 t144,.int .i64 t145] 23 (0,0)) (by refine blk_put (cs:=#[.int .i64 t144,.int .i64 0]) ?_ 1 _ rfl;refine blk_put (cs:=#[.int .i64 0,.int .i64 0]) ?_ 0 _ rfl;exact BK146.out) hb);replace HB:=bB HB hb;(try clear hb);have hnb20:=NB141_140.out;have hnc20:=NB140_141.out;have hcz21_0:w19.cell? ⟨gb141,0,none⟩ = some (.int .i64 0):=cz BK141 0;have hcz21_1:w19.cell? ⟨gb141,1,none⟩ = some (.int .i64 0):=cz BK141 1;have hfz21_0:=blk_frozen BK141.out 0;have hfz21_1:=blk_frozen BK141.out 1))
 refine bodyPost_ret (results_cell_row rfl _ _ gb141 23 #[.int .i64 t147,.int .i64 t148] (0,0) _ rfl (by refine blk_put (cs:=#[.int .i64 t147,.int .i64 0]) ?_ 1 _ rfl;refine blk_put (cs:=#[.int .i64 0,.int .i64 0]) ?_ 0 _ rfl;exact BK141.out) Try.underlying23 rfl (by kernel_rfl)) rfl ?_
 exact ⟨rfl,bl HB⟩
end Go.Proofs.Ytjohcjfmlhihbaa.G
namespace Go.Proofs.Ytjohcjfmlhihbaa.G
open Go.RowKit Go.Proofs.YtjohcjfmlhihbaaW.PrintWords Go.Proofs.YtjohcjfmlhihbaaW.PrintLast Go.Proofs.YtjohcjfmlhihbaaW.PrintMore
set_option maxHeartbeats 8000000
set_option maxRecDepth 100000
attribute [local go_sem] cond_true cond_false fld23_0 fld23_1 fld45_0 fld45_1 fld109_0 fld109_1 fld94_0 fld94_1 max2_int min2_int max_two min_two max_three min_three max_four min_four   -- for this text's walks alone
def shares_over.f (k:Nat) (a0_0:Int) (a0_1:Int) (a1:Int):Option (Int × Int):=(shares_frac.f k a0_0 (wrap64 (a0_1 * a1))).bind fun bt151=>(some (bt151.1,bt151.2))
theorem shares_over.mono:∀ a0 a1 a2 k,LeO (shares_over.f k a0 a1 a2) (shares_over.f (k + 1) a0 a1 a2):=by
 intro a0 a1 a2 k
 unfold shares_over.f
 repeat' first
   | (with_reducible exact shares_frac.mono _ _ _)
   | (with_reducible exact LeO.refl _)
   | (with_reducible exact LeO.none _)
   | (with_reducible refine LeO.ite ?_ ?_)
   | (with_reducible refine LeO.bind ?_ (fun _=>?_))
   | exact shares_frac.mono _ _ _
   | exact LeO.none _
   | refine LeO.ite ?_ ?_
   | refine LeO.bind ?_ (fun _=>?_)
theorem shares_over.calls (k:Nat) (a0_0:Int) (a0_1:Int) (a1:Int) (r1:Int) (r2:Int) (w:World) (h:shares_over.f k a0_0 a0_1 a1 = some (r1,r2)) :
  Calls Try.prog 96 #[.agg #[.int .i64 a0_0,.int .i64 a0_1],.int .i64 a1] w fun e w'=>e = .returned (.agg #[.int .i64 r1,.int .i64 r2]) ∧ Below w.heap.size w w':=by
 have hu23:=Try.underlying23
 have HB:=Aside0.mk (Below.refl w.heap.size w)
 have H:((shares_frac.f k a0_0 (wrap64 (a0_1 * a1))).bind fun bt151=>(some (bt151.1,bt151.2))) = some (r1,r2):=h
 clear h
 replace H:=Option.bind_eq_some_iff.mp H
 obtain ⟨⟨t151,t152⟩,A30,H⟩:=H
 replace H:(some (t151,t152)) = some (r1,r2):=H
 have A3:=Aside0.mk A30
 clear A30
 simp only [Option.some.injEq,Prod.mk.injEq] at H
 obtain ⟨rfl,rfl⟩:=H
 go_enter Try.func96,Try.ntmps96
 go_wp2_with (first | ((with_reducible refine gate_dst (N:=2) rfl ?_);refine box_event ?hg (N:=2) ?hd (cs:=#[.int .i64 a0_0,.int .i64 a0_1]) (t:=23) ?hr ?_;(case hd=>rfl);(case hg=>rfl);(case hr=>first | (go_simp;done) | (go_simp;rfl));intro gb149 hg w4 hbox hb;have n0_:=Aside0.mk (below_step (by repeat (first | (with_reducible first | exact HB.out | apply below_alloc | apply pw_below_drewN | apply below_drew1) | exact HB.out)) hb);have n1_:=Aside0.mk (hbox);have n2_:=Aside0.mk ((by rw [hg];exact (below_size (by repeat (first | (with_reducible first | exact HB.out | apply below_alloc | apply pw_below_drewN | apply below_drew1) | exact HB.out))):w.heap.size ≤ gb149));have n3_:=Aside0.mk ((by rw [hg];exact (below_size (by repeat (first | (with_reducible first | exact HB.out | apply below_alloc | apply pw_below_drewN | apply below_drew1) | exact HB.out))):w.heap.size ≤ gb149));clear HB;have HB:=n0_;have BK149:=n1_;have GW149:=n2_;have GE149:=n3_;clear n0_ n1_ n2_ n3_;clear hb hbox hg) | ((with_reducible refine gate_dst (N:=4) rfl ?_);refine box_event ?hg (N:=4) ?hd (cs:=#[.int .i64 0,.int .i64 0]) (t:=23) ?hr ?_;(case hd=>rfl);(case hg=>rfl);(case hr=>first | (go_simp;done) | (go_simp;rfl));intro gb150 hg w5 hbox hb;have n0_:=Aside0.mk (blk_below (g:=gb149) (o:=.cells #[.int .i64 a0_0,.int .i64 a0_1] 23 (0,0)) (by (with_reducible repeat (first | refine blk_drewN ?_ _ | refine blk_drew ?_ | refine blk_alloc ?_ _));exact BK149.out) hb);have n1_:=Aside0.mk (below_step (by repeat (first | (with_reducible first | exact HB.out | apply below_alloc | apply pw_below_drewN | apply below_drew1 | refine below_set ?_ GE149.out) | exact HB.out)) hb);have n2_:=Aside0.mk (hbox);have n3_:=Aside0.mk ((by rw [hg];exact (below_size (by repeat (first | (with_reducible first | exact HB.out | apply below_alloc | apply pw_below_drewN | apply below_drew1 | refine below_set ?_ GE149.out) | exact HB.out))):w.heap.size ≤ gb150));have n4_:=Aside0.mk ((by rw [hg];exact (below_size (by repeat (first | (with_reducible first | exact HB.out | apply below_alloc | apply pw_below_drewN | apply below_drew1 | refine below_set ?_ GE149.out) | exact HB.out))):w.heap.size ≤ gb150));have n5_:=Aside0.mk ((by rw [hg];exact Nat.ne_of_lt (blk_lt (g:=gb149) (o:=.cells #[.int .i64 a0_0,.int .i64 a0_1] 23 (0,0)) (by (with_reducible repeat (first | refine blk_drewN ?_ _ | refine blk_drew ?_ | refine blk_alloc ?_ _));exact BK149.out)):gb149 ≠ gb150));have n6_:=Aside0.mk ((by rw [hg];exact Nat.ne_of_gt (blk_lt (g:=gb149) (o:=.cells #[.int .i64 a0_0,.int .i64 a0_1] 23 (0,0)) (by (with_reducible repeat (first | refine blk_drewN ?_ _ | refine blk_drew ?_ | refine blk_alloc ?_ _));exact BK149.out)):gb150 ≠ gb149));clear BK149;clear HB;have BK149:=n0_;have HB:=n1_;have BK150:=n2_;have GW150:=n3_;have GE150:=n4_;have NB149_150:=n5_;have NB150_149:=n6_;clear n0_ n1_ n2_ n3_ n4_ n5_ n6_;clear hb hbox hg;have hnb6:=NB149_150.out;have hnc6:=NB150_149.out;have hcz7_0:w5.cell? ⟨gb149,0,none⟩ = some (.int .i64 a0_0):=(blk_cell BK149.out 0).trans rfl;have hcz7_1:w5.cell? ⟨gb149,1,none⟩ = some (.int .i64 a0_1):=(blk_cell BK149.out 1).trans rfl;have hfz7_0:=blk_frozen BK149.out 0;have hfz7_1:=blk_frozen BK149.out 1) | ((with_reducible refine gate_callee (f:=117) rfl ?_);refine goesL_ (some 11) rfl rfl Try.func117 (by kernel_rfl) rfl #[.int .i64 a0_0,.int .i64 (wrap64 (a0_1 * a1))] rfl (by (try simp only [List.map_toArray,List.map_cons,List.map_nil]);first | done | rfl | (simp only [List.length_drop,List.length_take];rfl)) ?_;(with_reducible refine (shares_frac.calls k a0_0 (wrap64 (a0_1 * a1)) t151 t152 _ A3.out).mono ?_);rintro e w8 ⟨rfl,hb⟩;refine ⟨_,rfl,?_⟩;have n0_:=Aside0.mk (blk_below (g:=gb149) (o:=.cells #[.int .i64 a0_0,.int .i64 a0_1] 23 (0,0)) (by (with_reducible repeat (first | refine blk_drewN ?_ _ | refine blk_drew ?_ | refine blk_alloc ?_ _));exact BK149.out) hb);have n1_:=Aside0.mk (blk_below (g:=gb150) (o:=.cells #[.int .i64 0,.int .i64 0] 23 (0,0)) (by (with_reducible repeat (first | refine blk_drewN ?_ _ | refine blk_drew ?_ | refine blk_alloc ?_ _));exact BK150.out) hb);have n2_:=Aside0.mk (below_step (by repeat (first | (with_reducible first | exact HB.out | apply below_alloc | apply pw_below_drewN | apply below_drew1 | refine below_set ?_ GE149.out | refine below_set ?_ GE150.out) | exact HB.out)) hb);clear BK149;clear BK150;clear HB;have BK149:=n0_;have BK150:=n1_;have HB:=n2_;clear n0_ n1_ n2_;(try clear hb);have hcz9_0:w8.cell? ⟨gb150,0,none⟩ = some (.int .i64 0):=(blk_cell BK150.out 0).trans rfl;have hcz9_1:w8.cell? ⟨gb150,1,none⟩ = some (.int .i64 0):=(blk_cell BK150.out 1).trans rfl;have hfz9_0:=blk_frozen BK150.out 0;have hfz9_1:=blk_frozen BK150.out 1))
 refine bodyPost_ret (results_cell_row rfl _ _ gb150 23 #[.int .i64 t151,.int .i64 t152] (0,0) _ rfl (by (with_reducible repeat (first | refine blk_drewN ?_ _ | refine blk_drew ?_ | refine blk_alloc ?_ _));refine blk_put (cs:=#[.int .i64 t151,.int .i64 0]) ?_ 1 _ rfl;(with_reducible repeat (first | refine blk_drewN ?_ _ | refine blk_drew ?_ | refine blk_alloc ?_ _));refine blk_put (cs:=#[.int .i64 0,.int .i64 0]) ?_ 0 _ rfl;(with_reducible repeat (first | refine blk_drewN ?_ _ | refine blk_drew ?_ | refine blk_alloc ?_ _));exact BK150.out) Try.underlying23 rfl (by kernel_rfl)) rfl ?_
 exact ⟨by first | rfl | (simp [errW_none,errW_some] <;> rfl) | (simp [*,errW_none,errW_some] <;> rfl),by repeat (first | (with_reducible first | exact HB.out | apply below_alloc | apply pw_below_drewN | apply below_drew1 | refine below_set ?_ GE149.out | refine below_set ?_ GE150.out) | exact HB.out)⟩
end Go.Proofs.Ytjohcjfmlhihbaa.G
namespace Go.Proofs.Ytjohcjfmlhihbaa.G
open Go.RowKit Go.Proofs.YtjohcjfmlhihbaaW.PrintWords Go.Proofs.YtjohcjfmlhihbaaW.PrintLast Go.Proofs.YtjohcjfmlhihbaaW.PrintMore
set_option maxHeartbeats 8000000
set_option maxRecDepth 100000
attribute [local go_sem] cond_true cond_false fld23_0 fld23_1 fld45_0 fld45_1 fld109_0 fld109_1 fld94_0 fld94_1 max2_int min2_int max_two min_two max_three min_three max_four min_four
def shares_garment.f (k:Nat) (a0_0:Int) (a0_1:Int) (a1:Int) (a2:Int):Option (Int × Int × Int × Int):=(shares_garment_1.f k a2 a0_0 a0_1).bind fun bt184=>((shares_garment_1.f k a1 a0_0 a0_1).bind fun bt186=>((shares_add.f k bt184.1 bt184.2 bt186.1 bt186.2).bind fun bt190=>((shares_minus.f k a0_0 a0_1 bt190.1 bt190.2).bind fun bt192=>((shares_over.f k bt192.1 bt192.2 2).bind fun bt194=>((shares_add.f k bt184.1 bt184.2 bt194.1 bt194.2).bind fun bt197=>((shares_add.f k bt186.1 bt186.2 bt194.1 bt194.2).bind fun bt199=>(some (bt197.1,bt197.2,bt199.1,bt199.2))))))))
theorem shares_garment.mono:∀ a0 a1 a2 a3 k,LeO (shares_garment.f k a0 a1 a2 a3) (shares_garment.f (k + 1) a0 a1 a2 a3):=by
 intro a0 a1 a2 a3 k
 unfold shares_garment.f
 repeat' first
   | (with_reducible first | exact shares_add.mono _ _ _ _ _ | exact shares_garment_1.mono _ _ _ _ | exact shares_minus.mono _ _ _ _ _ | exact shares_over.mono _ _ _ _ | exact LeO.refl _ | exact LeO.none _ | refine LeO.ite ?_ ?_ | refine LeO.bind ?_ (fun _=>?_))
   | exact LeO.none _ | refine LeO.ite ?_ ?_ | refine LeO.bind ?_ (fun _=>?_)
def shares_garment.T3:Bool × List (List Nat × List Nat):=(true,[([],[]),([],[]),([],[]),([1,2],[1,2]),([0,3,3],[0,3]),([4,4],[4]),([],[]),([6,5,5,0,1,2,3,4,5,6],[5,6])])
def shares_garment.B3:List Nat:=[0,0,0,6,15,31,0,127]
theorem shares_garment.tab3:rtab .any (opsOf Try.f63 3) = shares_garment.T3:=by kernel_rfl
theorem shares_garment.bits3:waitsOk shares_garment.T3.2 shares_garment.B3 = true:=by kernel_rfl
def shares_garment.T4:Bool × List (List Nat × List Nat):=(true,[([],[]),([],[]),([0,1],[0,1]),([],[]),([],[]),([3,4,2],[3,4]),([2,5,0,1,2],[2]),([5,6,0,1,2,3,4,5,6],[5])])
def shares_garment.B4:List Nat:=[0,0,3,0,0,31,63,127]
theorem shares_garment.tab4:rtab .any (opsOf Try.f63 4) = shares_garment.T4:=by kernel_rfl
theorem shares_garment.bits4:waitsOk shares_garment.T4.2 shares_garment.B4 = true:=by kernel_rfl
theorem shares_garment.calls (k:Nat) (a0_0:Int) (a0_1:Int) (a1:Int) (a2:Int) (r1:Int) (r2:Int) (r3:Int) (r4:Int) (w:World) (h:shares_garment.f k a0_0 a0_1 a1 a2 = some (r1,r2,r3,r4)) :
  Calls Try.prog 63 #[.agg #[.int .i64 a0_0,.int .i64 a0_1],.int .i64 a1,.int .i64 a2] w fun e w'=>e = .returned (.tuple #[.agg #[.int .i64 r1,.int .i64 r2],.agg #[.int .i64 r3,.int .i64 r4]]) ∧ Below w.heap.size w w':=by
 have hu23:=Try.underlying23
 have HB:=A_ (Below.refl w.heap.size w)
 have H:((shares_garment_1.f k a2 a0_0 a0_1).bind fun bt184=>((shares_garment_1.f k a1 a0_0 a0_1).bind fun bt186=>((shares_add.f k bt184.1 bt184.2 bt186.1 bt186.2).bind fun bt190=>((shares_minus.f k a0_0 a0_1 bt190.1 bt190.2).bind fun bt192=>((shares_over.f k bt192.1 bt192.2 2).bind fun bt194=>((shares_add.f k bt184.1 bt184.2 bt194.1 bt194.2).bind fun bt197=>((shares_add.f k bt186.1 bt186.2 bt194.1 bt194.2).bind fun bt199=>(some (bt197.1,bt197.2,bt199.1,bt199.2))))))))) = some (r1,r2,r3,r4):=h
 clear h
 replace H:=Option.bind_eq_some_iff.mp H
 obtain ⟨⟨t184,t185⟩,A40,H⟩:=H
 dsimp only at H
 have A4:=A_ A40
 clear A40
 replace H:=Option.bind_eq_some_iff.mp H
 obtain ⟨⟨t186,t187⟩,A50,H⟩:=H
 dsimp only at H
 have A5:=A_ A50
 clear A50
 replace H:=Option.bind_eq_some_iff.mp H
 obtain ⟨⟨t190,t191⟩,A60,H⟩:=H
 dsimp only at H
 have A6:=A_ A60
 clear A60
 replace H:=Option.bind_eq_some_iff.mp H
 obtain ⟨⟨t192,t193⟩,A70,H⟩:=H
 dsimp only at H
 have A7:=A_ A70
 clear A70
 replace H:=Option.bind_eq_some_iff.mp H
 obtain ⟨⟨t194,t195⟩,A80,H⟩:=H
 dsimp only at H
 have A8:=A_ A80
 clear A80
 replace H:=Option.bind_eq_some_iff.mp H
 obtain ⟨⟨t197,t198⟩,A90,H⟩:=H
 dsimp only at H
 have A9:=A_ A90
 clear A90
 replace H:=Option.bind_eq_some_iff.mp H
 obtain ⟨⟨t199,t200⟩,A100,H⟩:=H
 dsimp only at H
 have A10:=A_ A100
 clear A100
 simp only [Option.some.injEq,Prod.mk.injEq] at H
 obtain ⟨rfl,rfl,rfl,rfl⟩:=H
 go_enter Try.func63,Try.ntmps63
 try go_wp2_with (first | ((with_reducible refine gate_dst (N:=3) rfl ?_);refine bx 3 #[.int .i64 a0_0,.int .i64 a0_1] 23 ?_;intro gb181 hg w11 hbox hb;have BK181:=A_ hbox;have GW181:=gw hg HB;have GE181:=GW181;replace HB:=bB HB hb;clear hb hbox hg) | ((with_reducible refine gate_dst (N:=6) rfl ?_);refine bx 6 #[.int .i64 0,.int .i64 0] 23 ?_;intro gb182 hg w12 hbox hb;have BK182:=A_ hbox;have GW182:=gw hg HB;have GE182:=GW182;have NB181_182:=nl hg BK181;have NB182_181:=ng hg BK181;replace BK181:=kB BK181 hb;replace HB:=bB HB hb;clear hb hbox hg) | ((with_reducible refine gate_dst (N:=7) rfl ?_);refine bx 7 #[.int .i64 0,.int .i64 0] 23 ?_;intro gb183 hg w13 hbox hb;have BK183:=A_ hbox;have GW183:=gw hg HB;have GE183:=GW183;have NB181_183:=nl hg BK181;have NB183_181:=ng hg BK181;have NB182_183:=nl hg BK182;have NB183_182:=ng hg BK182;replace BK181:=kB BK181 hb;replace BK182:=kB BK182 hb;replace HB:=bB HB hb;clear hb hbox hg) | (go_at_call 94;(with_reducible refine (shares_garment_1.calls k a2 a0_0 a0_1 t184 t185 _ gb181 BK181.out A4.out).mono ?_);rintro e w14 ⟨rfl,hb⟩;replace BK181:=kB BK181 hb;replace BK182:=kB BK182 hb;replace BK183:=kB BK183 hb;replace HB:=bB HB hb;(try clear hb)) | (go_at_call 94;(with_reducible refine (shares_garment_1.calls k a1 a0_0 a0_1 t186 t187 _ gb181 BK181.out A5.out).mono ?_);rintro e w15 ⟨rfl,hb⟩;replace BK181:=kB BK181 hb;replace BK182:=kB BK182 hb;replace BK183:=kB BK183 hb;replace HB:=bB HB hb;(try clear hb)) | ((with_reducible refine gate_dst (N:=9) rfl ?_);refine bx 9 #[.int .i64 0,.int .i64 0] 23 ?_;intro gb188 hg w16 hbox hb;have BK188:=A_ hbox;have GW188:=gw hg HB;have GE188:=GW188;have NB181_188:=nl hg BK181;have NB188_181:=ng hg BK181;have NB182_188:=nl hg BK182;have NB188_182:=ng hg BK182;have NB183_188:=nl hg BK183;have NB188_183:=ng hg BK183;replace BK181:=kB BK181 hb;replace BK182:=kB BK182 hb;replace BK183:=kB BK183 hb;replace HB:=bB HB hb;clear hb hbox hg) | ((with_reducible refine gate_dst (N:=10) rfl ?_);refine bx 10 #[.int .i64 0,.int .i64 0] 23 ?_;intro gb189 hg w17 hbox hb;have BK189:=A_ hbox;have GW189:=gw hg HB;have GE189:=GW189;have NB181_189:=nl hg BK181;have NB189_181:=ng hg BK181;have NB182_189:=nl hg BK182;have NB189_182:=ng hg BK182;have NB183_189:=nl hg BK183;have NB189_183:=ng hg BK183;have NB188_189:=nl hg BK188;have NB189_188:=ng hg BK188;replace BK181:=kB BK181 hb;replace BK182:=kB BK182 hb;replace BK183:=kB BK183 hb;replace BK188:=kB BK188 hb;replace HB:=bB HB hb;clear hb hbox hg;have hnb18:=NB188_181.out;have hnc18:=NB181_188.out;have hnb19:=NB188_182.out;have hnc19:=NB182_188.out;have hnb20:=NB188_183.out;have hnc20:=NB183_188.out;have hnb21:=NB188_189.out;have hnc21:=NB189_188.out;have hcz22_0:w17.cell? ⟨gb188,0,none⟩ = some (.int .i64 0):=cz BK188 0;have hcz22_1:w17.cell? ⟨gb188,1,none⟩ = some (.int .i64 0):=cz BK188 1;have hfz22_0:=blk_frozen BK188.out 0;have hfz22_1:=blk_frozen BK188.out 1;have hnb23:=NB189_181.out;have hnc23:=NB181_189.out;have hnb24:=NB189_182.out;have hnc24:=NB182_189.out;have hnb25:=NB189_183.out;have hnc25:=NB183_189.out;have hcz26_0:w17.cell? ⟨gb189,0,none⟩ = some (.int .i64 0):=cz BK189 0;have hcz26_1:w17.cell? ⟨gb189,1,none⟩ = some (.int .i64 0):=cz BK189 1;have hfz26_0:=blk_frozen BK189.out 0;have hfz26_1:=blk_frozen BK189.out 1))
 have n0_:Aside0 (((((w17.setCell ⟨gb188,0,none⟩ (.int .i64 t184)).setCell ⟨gb188,1,none⟩ (.int .i64 t185)).setCell ⟨gb189,0,none⟩ (.int .i64 t186)).setCell ⟨gb189,1,none⟩ (.int .i64 t187)).heap[gb181]? = some (.cells #[.int .i64 a0_0,.int .i64 a0_1] 23 (0,0))):=⟨by refine blk_far ?_ NB181_189.out _;refine blk_far ?_ NB181_189.out _;refine blk_far ?_ NB181_188.out _;refine blk_far ?_ NB181_188.out _;exact BK181.out⟩
 have n1_:Aside0 (((((w17.setCell ⟨gb188,0,none⟩ (.int .i64 t184)).setCell ⟨gb188,1,none⟩ (.int .i64 t185)).setCell ⟨gb189,0,none⟩ (.int .i64 t186)).setCell ⟨gb189,1,none⟩ (.int .i64 t187)).heap[gb182]? = some (.cells #[.int .i64 0,.int .i64 0] 23 (0,0))):=⟨by refine blk_far ?_ NB182_189.out _;refine blk_far ?_ NB182_189.out _;refine blk_far ?_ NB182_188.out _;refine blk_far ?_ NB182_188.out _;exact BK182.out⟩
 have n2_:Aside0 (((((w17.setCell ⟨gb188,0,none⟩ (.int .i64 t184)).setCell ⟨gb188,1,none⟩ (.int .i64 t185)).setCell ⟨gb189,0,none⟩ (.int .i64 t186)).setCell ⟨gb189,1,none⟩ (.int .i64 t187)).heap[gb183]? = some (.cells #[.int .i64 0,.int .i64 0] 23 (0,0))):=⟨by refine blk_far ?_ NB183_189.out _;refine blk_far ?_ NB183_189.out _;refine blk_far ?_ NB183_188.out _;refine blk_far ?_ NB183_188.out _;exact BK183.out⟩
 have n3_:Aside0 (((((w17.setCell ⟨gb188,0,none⟩ (.int .i64 t184)).setCell ⟨gb188,1,none⟩ (.int .i64 t185)).setCell ⟨gb189,0,none⟩ (.int .i64 t186)).setCell ⟨gb189,1,none⟩ (.int .i64 t187)).heap[gb188]? = some (.cells #[.int .i64 t184,.int .i64 t185] 23 (0,0))):=⟨by refine blk_far ?_ NB188_189.out _;refine blk_far ?_ NB188_189.out _;refine blk_put (cs:=#[.int .i64 t184,.int .i64 0]) ?_ 1 _ rfl;refine blk_put (cs:=#[.int .i64 0,.int .i64 0]) ?_ 0 _ rfl;exact BK188.out⟩
 have n4_:Aside0 (((((w17.setCell ⟨gb188,0,none⟩ (.int .i64 t184)).setCell ⟨gb188,1,none⟩ (.int .i64 t185)).setCell ⟨gb189,0,none⟩ (.int .i64 t186)).setCell ⟨gb189,1,none⟩ (.int .i64 t187)).heap[gb189]? = some (.cells #[.int .i64 t186,.int .i64 t187] 23 (0,0))):=⟨by refine blk_put (cs:=#[.int .i64 t186,.int .i64 0]) ?_ 1 _ rfl;refine blk_put (cs:=#[.int .i64 0,.int .i64 0]) ?_ 0 _ rfl;refine blk_far ?_ NB189_188.out _;refine blk_far ?_ NB189_188.out _;exact BK189.out⟩
 have n5_:Aside0 (Below w.heap.size w ((((w17.setCell ⟨gb188,0,none⟩ (.int .i64 t184)).setCell ⟨gb188,1,none⟩ (.int .i64 t185)).setCell ⟨gb189,0,none⟩ (.int .i64 t186)).setCell ⟨gb189,1,none⟩ (.int .i64 t187))):=⟨bl HB⟩
 generalize ((((w17.setCell ⟨gb188,0,none⟩ (.int .i64 t184)).setCell ⟨gb188,1,none⟩ (.int .i64 t185)).setCell ⟨gb189,0,none⟩ (.int .i64 t186)).setCell ⟨gb189,1,none⟩ (.int .i64 t187)) = w27 at n0_ n1_ n2_ n3_ n4_ n5_ ⊢
 have BK181:=n0_
 have BK182:=n1_
 have BK183:=n2_
 have BK188:=n3_
 have BK189:=n4_
 have HB:=n5_
 clear n0_ n1_ n2_ n3_ n4_ n5_
 replace BK181:=kD BK181
 replace BK182:=kD BK182
 replace BK183:=kD BK183
 replace BK188:=kD BK188
 replace BK189:=kD BK189
 replace HB:=bD HB
 refine st 8 (fun w'=>w'.cell? ⟨gb181,0,none⟩ = some (.int .i64 a0_0) ∧ w'.cell? ⟨gb181,1,none⟩ = some (.int .i64 a0_1) ∧ w'.cell? ⟨gb188,0,none⟩ = some (.int .i64 t184) ∧ w'.cell? ⟨gb188,1,none⟩ = some (.int .i64 t185) ∧ w'.cell? ⟨gb189,0,none⟩ = some (.int .i64 t186) ∧ w'.cell? ⟨gb189,1,none⟩ = some (.int .i64 t187)) [] shares_garment.tab3 shares_garment.bits3 (fun hHeld HT_ HW_=>?_)
 generalize w27.drew = w28 at BK181 BK182 BK183 BK188 BK189 HB hHeld ⊢
 refine tq 0 19 1 HT_ HW_ hHeld ?_
 refine tq 1 20 3 HT_ HW_ hHeld ?_
 refine tq 2 21 7 HT_ HW_ hHeld ?_
 refine join_ (σ:=Nat) 1 (ba 8 127) (fun s_=>[(22,.agg #[.int .i64 t190,.int .i64 t191]),(23,.agg #[.int .i64 t192,.int .i64 t193]),(24,.agg #[.int .i64 t194,.int .i64 t195]),(11,.pointer (some ⟨s_,0,none⟩))]) (fun s_ w'=>(w'.cell? ⟨gb181,0,none⟩ = some (.int .i64 a0_0) ∧ w'.cell? ⟨gb181,1,none⟩ = some (.int .i64 a0_1) ∧ w'.cell? ⟨gb188,0,none⟩ = some (.int .i64 t184) ∧ w'.cell? ⟨gb188,1,none⟩ = some (.int .i64 t185) ∧ w'.cell? ⟨gb189,0,none⟩ = some (.int .i64 t186) ∧ w'.cell? ⟨gb189,1,none⟩ = some (.int .i64 t187)) ∧ (w'.heap[gb181]? = some (.cells #[.int .i64 a0_0,.int .i64 a0_1] 23 (0,0))) ∧ (w'.heap[gb182]? = some (.cells #[.int .i64 0,.int .i64 0] 23 (0,0))) ∧ (w'.heap[gb183]? = some (.cells #[.int .i64 0,.int .i64 0] 23 (0,0))) ∧ (w'.heap[gb188]? = some (.cells #[.int .i64 t184,.int .i64 t185] 23 (0,0))) ∧ (w'.heap[gb189]? = some (.cells #[.int .i64 t186,.int .i64 t187] 23 (0,0))) ∧ (w'.heap[s_]? = some (.cells #[.int .i64 0,.int .i64 0] 23 (0,0))) ∧ (w.heap.size ≤ s_) ∧ (w.heap.size ≤ s_) ∧ (gb181 ≠ s_) ∧ (s_ ≠ gb181) ∧ (gb182 ≠ s_) ∧ (s_ ≠ gb182) ∧ (gb183 ≠ s_) ∧ (s_ ≠ gb183) ∧ (gb188 ≠ s_) ∧ (s_ ≠ gb188) ∧ (gb189 ≠ s_) ∧ (s_ ≠ gb189) ∧ (Below w.heap.size w w')) ?_ ?_
 rotate_left
 ·intro hCont
  refine two_ (i:=3) (j:=6) (Ni:=some 22) (Nj:=some 11) (ba 8 15) (ba 8 71) rfl rfl rfl rfl (two_of HT_.out (by kernel_rfl)) (by decide) (by decide) (fun K hK=>?_) (fun K hK=>?_)
  ·skip
   refine gq Try.func88 #[.agg #[.int .i64 t184,.int .i64 t185],.agg #[.int .i64 t186,.int .i64 t187]] ?_
   with_reducible refine (shares_add.calls k t184 t185 t186 t187 t190 t191 _ A6.out).mono ?_
   rintro e w29 ⟨rfl,hb⟩
   refine ⟨_,rfl,?_⟩
   replace BK181:=kB BK181 hb
   replace BK182:=kB BK182 hb
   replace BK183:=kB BK183 hb
   replace BK188:=kB BK188 hb
   replace BK189:=kB BK189 hb
   replace HB:=bB HB hb
   (try clear hb)
   refine hz hK (fun hHeld=>?_)
   clear hK K
   refine nq 22 ?_
   refine two_ (i:=4) (j:=6) (Ni:=some 23) (Nj:=some 11) (ba 8 31) (ba 8 79) rfl rfl rfl rfl (two_of HT_.out (by kernel_rfl)) (by decide) (by decide) (fun K hK=>?_) (fun K hK=>?_)
   ·skip
    refine gq Try.func95 #[.agg #[.int .i64 a0_0,.int .i64 a0_1],.agg #[.int .i64 t190,.int .i64 t191]] ?_
    with_reducible refine (shares_minus.calls k a0_0 a0_1 t190 t191 t192 t193 _ A7.out).mono ?_
    rintro e w30 ⟨rfl,hb⟩
    refine ⟨_,rfl,?_⟩
    replace BK181:=kB BK181 hb
    replace BK182:=kB BK182 hb
    replace BK183:=kB BK183 hb
    replace BK188:=kB BK188 hb
    replace BK189:=kB BK189 hb
    replace HB:=bB HB hb
    (try clear hb)
    refine hz hK (fun hHeld=>?_)
    clear hK K
    refine nq 23 ?_
    refine two_ (i:=5) (j:=6) (Ni:=some 24) (Nj:=some 11) (ba 8 63) (ba 8 95) rfl rfl rfl rfl (two_of HT_.out (by kernel_rfl)) (by decide) (by decide) (fun K hK=>?_) (fun K hK=>?_)
    ·skip
     refine gq Try.func96 #[.agg #[.int .i64 t192,.int .i64 t193],.int .i64 2] ?_
     with_reducible refine (shares_over.calls k t192 t193 2 t194 t195 _ A8.out).mono ?_
     rintro e w31 ⟨rfl,hb⟩
     refine ⟨_,rfl,?_⟩
     replace BK181:=kB BK181 hb
     replace BK182:=kB BK182 hb
     replace BK183:=kB BK183 hb
     replace BK188:=kB BK188 hb
     replace BK189:=kB BK189 hb
     replace HB:=bB HB hb
     (try clear hb)
     refine hz hK (fun hHeld=>?_)
     clear hK K
     refine nq 24 ?_
     refine oq 6 11 127 HT_ (fun K hK=>?_)
     refine box_step ?hg (N:=11) ?hd (cs:=#[.int .i64 0,.int .i64 0]) (t:=23) ?hr ?_;(case hd=>rfl);(case hg=>rfl);(case hr=>first | (go_simp;done) | (go_simp;rfl))
     intro gb196 hg w32 hbox hb
     have BK196:=A_ hbox
     have GW196:=gw hg HB
     have GE196:=GW196
     have NB181_196:=nl hg BK181
     have NB196_181:=ng hg BK181
     have NB182_196:=nl hg BK182
     have NB196_182:=ng hg BK182
     have NB183_196:=nl hg BK183
     have NB196_183:=ng hg BK183
     have NB188_196:=nl hg BK188
     have NB196_188:=ng hg BK188
     have NB189_196:=nl hg BK189
     have NB196_189:=ng hg BK189
     replace BK181:=kB BK181 hb
     replace BK182:=kB BK182 hb
     replace BK183:=kB BK183 hb
     replace BK188:=kB BK188 hb
     replace BK189:=kB BK189 hb
     replace HB:=bB HB hb
     clear hb hbox hg
     refine hz hK (fun hHeld=>?_)
     clear hK K
     refine nq 11 ?_
     exact norm_ (by simp only [putAll,Act.put,List.setIfInBounds_toArray,List.set_cons_zero,List.set_cons_succ]) (hCont gb196 _ ⟨hHeld,BK181.out,BK182.out,BK183.out,BK188.out,BK189.out,BK196.out,GW196.out,GE196.out,NB181_196.out,NB196_181.out,NB182_196.out,NB196_182.out,NB183_196.out,NB196_183.out,NB188_196.out,NB196_188.out,NB189_196.out,NB196_189.out,HB.out⟩)
    skip
    refine box_step ?hg (N:=11) ?hd (cs:=#[.int .i64 0,.int .i64 0]) (t:=23) ?hr ?_;(case hd=>rfl);(case hg=>rfl);(case hr=>first | (go_simp;done) | (go_simp;rfl))
    intro gb196 hg w31 hbox hb
    have BK196:=A_ hbox
    have GW196:=gw hg HB
    have GE196:=GW196
    have NB181_196:=nl hg BK181
    have NB196_181:=ng hg BK181
    have NB182_196:=nl hg BK182
    have NB196_182:=ng hg BK182
    have NB183_196:=nl hg BK183
    have NB196_183:=ng hg BK183
    have NB188_196:=nl hg BK188
    have NB196_188:=ng hg BK188
    have NB189_196:=nl hg BK189
    have NB196_189:=ng hg BK189
    replace BK181:=kB BK181 hb
    replace BK182:=kB BK182 hb
    replace BK183:=kB BK183 hb
    replace BK188:=kB BK188 hb
    replace BK189:=kB BK189 hb
    replace HB:=bB HB hb
    clear hb hbox hg
    refine hz hK (fun hHeld=>?_)
    clear hK K
    refine nq 11 ?_
    refine oq 5 24 127 HT_ (fun K hK=>?_)
    refine gq Try.func96 #[.agg #[.int .i64 t192,.int .i64 t193],.int .i64 2] ?_
    with_reducible refine (shares_over.calls k t192 t193 2 t194 t195 _ A8.out).mono ?_
    rintro e w32 ⟨rfl,hb⟩
    refine ⟨_,rfl,?_⟩
    replace BK181:=kB BK181 hb
    replace BK182:=kB BK182 hb
    replace BK183:=kB BK183 hb
    replace BK188:=kB BK188 hb
    replace BK189:=kB BK189 hb
    replace BK196:=kB BK196 hb
    replace HB:=bB HB hb
    (try clear hb)
    refine hz hK (fun hHeld=>?_)
    clear hK K
    refine nq 24 ?_
    exact norm_ (by simp only [putAll,Act.put,List.setIfInBounds_toArray,List.set_cons_zero,List.set_cons_succ]) (hCont gb196 _ ⟨hHeld,BK181.out,BK182.out,BK183.out,BK188.out,BK189.out,BK196.out,GW196.out,GE196.out,NB181_196.out,NB196_181.out,NB182_196.out,NB196_182.out,NB183_196.out,NB196_183.out,NB188_196.out,NB196_188.out,NB189_196.out,NB196_189.out,HB.out⟩)
   skip
   refine box_step ?hg (N:=11) ?hd (cs:=#[.int .i64 0,.int .i64 0]) (t:=23) ?hr ?_;(case hd=>rfl);(case hg=>rfl);(case hr=>first | (go_simp;done) | (go_simp;rfl))
   intro gb196 hg w30 hbox hb
   have BK196:=A_ hbox
   have GW196:=gw hg HB
   have GE196:=GW196
   have NB181_196:=nl hg BK181
   have NB196_181:=ng hg BK181
   have NB182_196:=nl hg BK182
   have NB196_182:=ng hg BK182
   have NB183_196:=nl hg BK183
   have NB196_183:=ng hg BK183
   have NB188_196:=nl hg BK188
   have NB196_188:=ng hg BK188
   have NB189_196:=nl hg BK189
   have NB196_189:=ng hg BK189
   replace BK181:=kB BK181 hb
   replace BK182:=kB BK182 hb
   replace BK183:=kB BK183 hb
   replace BK188:=kB BK188 hb
   replace BK189:=kB BK189 hb
   replace HB:=bB HB hb
   clear hb hbox hg
   refine hz hK (fun hHeld=>?_)
   clear hK K
   refine nq 11 ?_
   refine oq 4 23 95 HT_ (fun K hK=>?_)
   refine gq Try.func95 #[.agg #[.int .i64 a0_0,.int .i64 a0_1],.agg #[.int .i64 t190,.int .i64 t191]] ?_
   with_reducible refine (shares_minus.calls k a0_0 a0_1 t190 t191 t192 t193 _ A7.out).mono ?_
   rintro e w31 ⟨rfl,hb⟩
   refine ⟨_,rfl,?_⟩
   replace BK181:=kB BK181 hb
   replace BK182:=kB BK182 hb
   replace BK183:=kB BK183 hb
   replace BK188:=kB BK188 hb
   replace BK189:=kB BK189 hb
   replace BK196:=kB BK196 hb
   replace HB:=bB HB hb
   (try clear hb)
   refine hz hK (fun hHeld=>?_)
   clear hK K
   refine nq 23 ?_
   refine oq 5 24 127 HT_ (fun K hK=>?_)
   refine gq Try.func96 #[.agg #[.int .i64 t192,.int .i64 t193],.int .i64 2] ?_
   with_reducible refine (shares_over.calls k t192 t193 2 t194 t195 _ A8.out).mono ?_
   rintro e w32 ⟨rfl,hb⟩
   refine ⟨_,rfl,?_⟩
   replace BK181:=kB BK181 hb
   replace BK182:=kB BK182 hb
   replace BK183:=kB BK183 hb
   replace BK188:=kB BK188 hb
   replace BK189:=kB BK189 hb
   replace BK196:=kB BK196 hb
   replace HB:=bB HB hb
   (try clear hb)
   refine hz hK (fun hHeld=>?_)
   clear hK K
   refine nq 24 ?_
   exact norm_ (by simp only [putAll,Act.put,List.setIfInBounds_toArray,List.set_cons_zero,List.set_cons_succ]) (hCont gb196 _ ⟨hHeld,BK181.out,BK182.out,BK183.out,BK188.out,BK189.out,BK196.out,GW196.out,GE196.out,NB181_196.out,NB196_181.out,NB182_196.out,NB196_182.out,NB183_196.out,NB196_183.out,NB188_196.out,NB196_188.out,NB189_196.out,NB196_189.out,HB.out⟩)
  skip
  refine box_step ?hg (N:=11) ?hd (cs:=#[.int .i64 0,.int .i64 0]) (t:=23) ?hr ?_;(case hd=>rfl);(case hg=>rfl);(case hr=>first | (go_simp;done) | (go_simp;rfl))
  intro gb196 hg w29 hbox hb
  have BK196:=A_ hbox
  have GW196:=gw hg HB
  have GE196:=GW196
  have NB181_196:=nl hg BK181
  have NB196_181:=ng hg BK181
  have NB182_196:=nl hg BK182
  have NB196_182:=ng hg BK182
  have NB183_196:=nl hg BK183
  have NB196_183:=ng hg BK183
  have NB188_196:=nl hg BK188
  have NB196_188:=ng hg BK188
  have NB189_196:=nl hg BK189
  have NB196_189:=ng hg BK189
  replace BK181:=kB BK181 hb
  replace BK182:=kB BK182 hb
  replace BK183:=kB BK183 hb
  replace BK188:=kB BK188 hb
  replace BK189:=kB BK189 hb
  replace HB:=bB HB hb
  clear hb hbox hg
  refine hz hK (fun hHeld=>?_)
  clear hK K
  refine nq 11 ?_
  refine oq 3 22 79 HT_ (fun K hK=>?_)
  refine gq Try.func88 #[.agg #[.int .i64 t184,.int .i64 t185],.agg #[.int .i64 t186,.int .i64 t187]] ?_
  with_reducible refine (shares_add.calls k t184 t185 t186 t187 t190 t191 _ A6.out).mono ?_
  rintro e w30 ⟨rfl,hb⟩
  refine ⟨_,rfl,?_⟩
  replace BK181:=kB BK181 hb
  replace BK182:=kB BK182 hb
  replace BK183:=kB BK183 hb
  replace BK188:=kB BK188 hb
  replace BK189:=kB BK189 hb
  replace BK196:=kB BK196 hb
  replace HB:=bB HB hb
  (try clear hb)
  refine hz hK (fun hHeld=>?_)
  clear hK K
  refine nq 22 ?_
  refine oq 4 23 95 HT_ (fun K hK=>?_)
  refine gq Try.func95 #[.agg #[.int .i64 a0_0,.int .i64 a0_1],.agg #[.int .i64 t190,.int .i64 t191]] ?_
  with_reducible refine (shares_minus.calls k a0_0 a0_1 t190 t191 t192 t193 _ A7.out).mono ?_
  rintro e w31 ⟨rfl,hb⟩
  refine ⟨_,rfl,?_⟩
  replace BK181:=kB BK181 hb
  replace BK182:=kB BK182 hb
  replace BK183:=kB BK183 hb
  replace BK188:=kB BK188 hb
  replace BK189:=kB BK189 hb
  replace BK196:=kB BK196 hb
  replace HB:=bB HB hb
  (try clear hb)
  refine hz hK (fun hHeld=>?_)
  clear hK K
  refine nq 23 ?_
  refine oq 5 24 127 HT_ (fun K hK=>?_)
  refine gq Try.func96 #[.agg #[.int .i64 t192,.int .i64 t193],.int .i64 2] ?_
  with_reducible refine (shares_over.calls k t192 t193 2 t194 t195 _ A8.out).mono ?_
  rintro e w32 ⟨rfl,hb⟩
  refine ⟨_,rfl,?_⟩
  replace BK181:=kB BK181 hb
  replace BK182:=kB BK182 hb
  replace BK183:=kB BK183 hb
  replace BK188:=kB BK188 hb
  replace BK189:=kB BK189 hb
  replace BK196:=kB BK196 hb
  replace HB:=bB HB hb
  (try clear hb)
  refine hz hK (fun hHeld=>?_)
  clear hK K
  refine nq 24 ?_
  exact norm_ (by simp only [putAll,Act.put,List.setIfInBounds_toArray,List.set_cons_zero,List.set_cons_succ]) (hCont gb196 _ ⟨hHeld,BK181.out,BK182.out,BK183.out,BK188.out,BK189.out,BK196.out,GW196.out,GE196.out,NB181_196.out,NB196_181.out,NB182_196.out,NB196_182.out,NB183_196.out,NB196_183.out,NB188_196.out,NB196_188.out,NB189_196.out,NB196_189.out,HB.out⟩)
 rintro gb196 w33 ⟨hS_,h0_,h1_,h2_,h3_,h4_,h5_,h6_,h7_,h8_,h9_,h10_,h11_,h12_,h13_,h14_,h15_,h16_,h17_,h18_⟩
 have BK196:Aside0 (w33.heap[gb196]? = some (.cells #[.int .i64 0,.int .i64 0] 23 (0,0))):=⟨h5_⟩
 have GW196:Aside0 (w.heap.size ≤ gb196):=⟨h6_⟩
 have GE196:Aside0 (w.heap.size ≤ gb196):=⟨h7_⟩
 have NB181_196:Aside0 (gb181 ≠ gb196):=⟨h8_⟩
 have NB196_181:Aside0 (gb196 ≠ gb181):=⟨h9_⟩
 have NB182_196:Aside0 (gb182 ≠ gb196):=⟨h10_⟩
 have NB196_182:Aside0 (gb196 ≠ gb182):=⟨h11_⟩
 have NB183_196:Aside0 (gb183 ≠ gb196):=⟨h12_⟩
 have NB196_183:Aside0 (gb196 ≠ gb183):=⟨h13_⟩
 have NB188_196:Aside0 (gb188 ≠ gb196):=⟨h14_⟩
 have NB196_188:Aside0 (gb196 ≠ gb188):=⟨h15_⟩
 have NB189_196:Aside0 (gb189 ≠ gb196):=⟨h16_⟩
 have NB196_189:Aside0 (gb196 ≠ gb189):=⟨h17_⟩
 replace BK181:Aside0 (w33.heap[gb181]? = some (.cells #[.int .i64 a0_0,.int .i64 a0_1] 23 (0,0))):=⟨h0_⟩
 replace BK182:Aside0 (w33.heap[gb182]? = some (.cells #[.int .i64 0,.int .i64 0] 23 (0,0))):=⟨h1_⟩
 replace BK183:Aside0 (w33.heap[gb183]? = some (.cells #[.int .i64 0,.int .i64 0] 23 (0,0))):=⟨h2_⟩
 replace BK188:Aside0 (w33.heap[gb188]? = some (.cells #[.int .i64 t184,.int .i64 t185] 23 (0,0))):=⟨h3_⟩
 replace BK189:Aside0 (w33.heap[gb189]? = some (.cells #[.int .i64 t186,.int .i64 t187] 23 (0,0))):=⟨h4_⟩
 replace HB:Aside0 (Below w.heap.size w w33):=⟨h18_⟩
 clear h0_ h1_ h2_ h3_ h4_ h5_ h6_ h7_ h8_ h9_ h10_ h11_ h12_ h13_ h14_ h15_ h16_ h17_ h18_
 have hHeld:w33.cell? ⟨gb181,0,none⟩ = some (.int .i64 a0_0) ∧ w33.cell? ⟨gb181,1,none⟩ = some (.int .i64 a0_1) ∧ w33.cell? ⟨gb188,0,none⟩ = some (.int .i64 t184) ∧ w33.cell? ⟨gb188,1,none⟩ = some (.int .i64 t185) ∧ w33.cell? ⟨gb189,0,none⟩ = some (.int .i64 t186) ∧ w33.cell? ⟨gb189,1,none⟩ = some (.int .i64 t187):=hS_
 refine norm_ (a':=?_) ?_ ?_
 rotate_left
 ·simp only [putAll,Act.put,List.setIfInBounds_toArray,List.set_cons_zero,List.set_cons_succ]
  rfl
 refine one_ (i:=7) (N:=none) (ba 8 255) rfl rfl (one_of HT_.out (by kernel_rfl)) (by decide) (fun K hK=>?_)
 have hs34:w33.cell? ⟨gb196,0,none⟩ = some (.int .i64 0):=cz BK196 0
 have hfs34:=blk_frozen BK196.out 0
 have hns34_0:=NB181_196.out
 have hns34_1:=NB182_196.out
 have hns34_2:=NB183_196.out
 have hns34_3:=NB188_196.out
 have hns34_4:=NB189_196.out
 have hms34_0:=NB196_181.out
 have hms34_1:=NB196_182.out
 have hms34_2:=NB196_183.out
 have hms34_3:=NB196_188.out
 have hms34_4:=NB196_189.out
 have hs35:w33.cell? ⟨gb196,1,none⟩ = some (.int .i64 0):=cz BK196 1
 have hfs35:=blk_frozen BK196.out 1
 have hns35_0:=NB181_196.out
 have hns35_1:=NB182_196.out
 have hns35_2:=NB183_196.out
 have hns35_3:=NB188_196.out
 have hns35_4:=NB189_196.out
 have hms35_0:=NB196_181.out
 have hms35_1:=NB196_182.out
 have hms35_2:=NB196_183.out
 have hms35_3:=NB196_188.out
 have hms35_4:=NB196_189.out
 refine skip_ (w1:=?_) (by rfl) rfl ?_ ?_
 rotate_left
 ·go_simp
  rfl
 refine hK.out _ _ ⟨((cell_far (p:=⟨gb196,_,none⟩) NB181_196.out _).trans (((cell_far (p:=⟨gb196,_,none⟩) NB181_196.out _).trans (hHeld.1)))),((cell_far (p:=⟨gb196,_,none⟩) NB181_196.out _).trans (((cell_far (p:=⟨gb196,_,none⟩) NB181_196.out _).trans (hHeld.2.1)))),((cell_far (p:=⟨gb196,_,none⟩) NB188_196.out _).trans (((cell_far (p:=⟨gb196,_,none⟩) NB188_196.out _).trans (hHeld.2.2.1)))),((cell_far (p:=⟨gb196,_,none⟩) NB188_196.out _).trans (((cell_far (p:=⟨gb196,_,none⟩) NB188_196.out _).trans (hHeld.2.2.2.1)))),((cell_far (p:=⟨gb196,_,none⟩) NB189_196.out _).trans (((cell_far (p:=⟨gb196,_,none⟩) NB189_196.out _).trans (hHeld.2.2.2.2.1)))),((cell_far (p:=⟨gb196,_,none⟩) NB189_196.out _).trans (((cell_far (p:=⟨gb196,_,none⟩) NB189_196.out _).trans (hHeld.2.2.2.2.2))))⟩ (fun hHeld=>?_)
 clear hK K
 refine done_ (done_of HT_.out (by kernel_rfl)) ?_
 try go_wp2
 have n0_:Aside0 (((w33.setCell ⟨gb196,0,none⟩ (.int .i64 t194)).setCell ⟨gb196,1,none⟩ (.int .i64 t195)).heap[gb181]? = some (.cells #[.int .i64 a0_0,.int .i64 a0_1] 23 (0,0))):=⟨by refine blk_far ?_ NB181_196.out _;refine blk_far ?_ NB181_196.out _;exact BK181.out⟩
 have n1_:Aside0 (((w33.setCell ⟨gb196,0,none⟩ (.int .i64 t194)).setCell ⟨gb196,1,none⟩ (.int .i64 t195)).heap[gb182]? = some (.cells #[.int .i64 0,.int .i64 0] 23 (0,0))):=⟨by refine blk_far ?_ NB182_196.out _;refine blk_far ?_ NB182_196.out _;exact BK182.out⟩
 have n2_:Aside0 (((w33.setCell ⟨gb196,0,none⟩ (.int .i64 t194)).setCell ⟨gb196,1,none⟩ (.int .i64 t195)).heap[gb183]? = some (.cells #[.int .i64 0,.int .i64 0] 23 (0,0))):=⟨by refine blk_far ?_ NB183_196.out _;refine blk_far ?_ NB183_196.out _;exact BK183.out⟩
 have n3_:Aside0 (((w33.setCell ⟨gb196,0,none⟩ (.int .i64 t194)).setCell ⟨gb196,1,none⟩ (.int .i64 t195)).heap[gb188]? = some (.cells #[.int .i64 t184,.int .i64 t185] 23 (0,0))):=⟨by refine blk_far ?_ NB188_196.out _;refine blk_far ?_ NB188_196.out _;exact BK188.out⟩
 have n4_:Aside0 (((w33.setCell ⟨gb196,0,none⟩ (.int .i64 t194)).setCell ⟨gb196,1,none⟩ (.int .i64 t195)).heap[gb189]? = some (.cells #[.int .i64 t186,.int .i64 t187] 23 (0,0))):=⟨by refine blk_far ?_ NB189_196.out _;refine blk_far ?_ NB189_196.out _;exact BK189.out⟩
 have n5_:Aside0 (((w33.setCell ⟨gb196,0,none⟩ (.int .i64 t194)).setCell ⟨gb196,1,none⟩ (.int .i64 t195)).heap[gb196]? = some (.cells #[.int .i64 t194,.int .i64 t195] 23 (0,0))):=⟨by refine blk_put (cs:=#[.int .i64 t194,.int .i64 0]) ?_ 1 _ rfl;refine blk_put (cs:=#[.int .i64 0,.int .i64 0]) ?_ 0 _ rfl;exact BK196.out⟩
 have n6_:Aside0 (Below w.heap.size w ((w33.setCell ⟨gb196,0,none⟩ (.int .i64 t194)).setCell ⟨gb196,1,none⟩ (.int .i64 t195))):=⟨bl HB⟩
 generalize ((w33.setCell ⟨gb196,0,none⟩ (.int .i64 t194)).setCell ⟨gb196,1,none⟩ (.int .i64 t195)) = w36 at n0_ n1_ n2_ n3_ n4_ n5_ n6_ ⊢
 have BK181:=n0_
 have BK182:=n1_
 have BK183:=n2_
 have BK188:=n3_
 have BK189:=n4_
 have BK196:=n5_
 have HB:=n6_
 clear n0_ n1_ n2_ n3_ n4_ n5_ n6_
 replace BK181:=kD BK181
 replace BK182:=kD BK182
 replace BK183:=kD BK183
 replace BK188:=kD BK188
 replace BK189:=kD BK189
 replace BK196:=kD BK196
 replace HB:=bD HB
 refine st 8 (fun w'=>w'.cell? ⟨gb188,0,none⟩ = some (.int .i64 t184) ∧ w'.cell? ⟨gb188,1,none⟩ = some (.int .i64 t185) ∧ w'.cell? ⟨gb196,0,none⟩ = some (.int .i64 t194) ∧ w'.cell? ⟨gb196,1,none⟩ = some (.int .i64 t195) ∧ w'.cell? ⟨gb189,0,none⟩ = some (.int .i64 t186) ∧ w'.cell? ⟨gb189,1,none⟩ = some (.int .i64 t187)) [] shares_garment.tab4 shares_garment.bits4 (fun hHeld HT_ HW_=>?_)
 generalize w36.drew = w37 at BK181 BK182 BK183 BK188 BK189 BK196 HB hHeld ⊢
 refine tq 0 25 1 HT_ HW_ hHeld ?_
 refine tq 1 26 3 HT_ HW_ hHeld ?_
 refine tq 3 28 11 HT_ HW_ hHeld ?_
 refine tq 4 29 27 HT_ HW_ hHeld ?_
 refine oq 2 27 31 HT_ (fun K hK=>?_)
 refine gq Try.func88 #[.agg #[.int .i64 t184,.int .i64 t185],.agg #[.int .i64 t194,.int .i64 t195]] ?_
 with_reducible refine (shares_add.calls k t184 t185 t194 t195 t197 t198 _ A9.out).mono ?_
 rintro e w38 ⟨rfl,hb⟩
 refine ⟨_,rfl,?_⟩
 replace BK181:=kB BK181 hb
 replace BK182:=kB BK182 hb
 replace BK183:=kB BK183 hb
 replace BK188:=kB BK188 hb
 replace BK189:=kB BK189 hb
 replace BK196:=kB BK196 hb
 replace HB:=bB HB hb
 (try clear hb)
 refine hz hK (fun hHeld=>?_)
 clear hK K
 refine nq 27 ?_
 refine oq 5 30 63 HT_ (fun K hK=>?_)
 refine gq Try.func88 #[.agg #[.int .i64 t186,.int .i64 t187],.agg #[.int .i64 t194,.int .i64 t195]] ?_
 with_reducible refine (shares_add.calls k t186 t187 t194 t195 t199 t200 _ A10.out).mono ?_
 rintro e w39 ⟨rfl,hb⟩
 refine ⟨_,rfl,?_⟩
 replace BK181:=kB BK181 hb
 replace BK182:=kB BK182 hb
 replace BK183:=kB BK183 hb
 replace BK188:=kB BK188 hb
 replace BK189:=kB BK189 hb
 replace BK196:=kB BK196 hb
 replace HB:=bB HB hb
 (try clear hb)
 refine hz hK (fun hHeld=>?_)
 clear hK K
 refine nq 30 ?_
 refine one_ (i:=6) (N:=none) (ba 8 127) rfl rfl (one_of HT_.out (by kernel_rfl)) (by decide) (fun K hK=>?_)
 have hs40:w39.cell? ⟨gb182,0,none⟩ = some (.int .i64 0):=cz BK182 0
 have hfs40:=blk_frozen BK182.out 0
 have hns40_0:=NB181_182.out
 have hns40_2:=NB183_182.out
 have hns40_3:=NB188_182.out
 have hns40_4:=NB189_182.out
 have hns40_5:=NB196_182.out
 have hms40_0:=NB182_181.out
 have hms40_2:=NB182_183.out
 have hms40_3:=NB182_188.out
 have hms40_4:=NB182_189.out
 have hms40_5:=NB182_196.out
 have hs41:w39.cell? ⟨gb182,1,none⟩ = some (.int .i64 0):=cz BK182 1
 have hfs41:=blk_frozen BK182.out 1
 have hns41_0:=NB181_182.out
 have hns41_2:=NB183_182.out
 have hns41_3:=NB188_182.out
 have hns41_4:=NB189_182.out
 have hns41_5:=NB196_182.out
 have hms41_0:=NB182_181.out
 have hms41_2:=NB182_183.out
 have hms41_3:=NB182_188.out
 have hms41_4:=NB182_189.out
 have hms41_5:=NB182_196.out
 refine skip_ (w1:=?_) (by rfl) rfl ?_ ?_
 rotate_left
 ·go_simp
  rfl
 refine hK.out _ _ ⟨((cell_far (p:=⟨gb182,_,none⟩) NB188_182.out _).trans (((cell_far (p:=⟨gb182,_,none⟩) NB188_182.out _).trans (hHeld.1)))),((cell_far (p:=⟨gb182,_,none⟩) NB188_182.out _).trans (((cell_far (p:=⟨gb182,_,none⟩) NB188_182.out _).trans (hHeld.2.1)))),((cell_far (p:=⟨gb182,_,none⟩) NB196_182.out _).trans (((cell_far (p:=⟨gb182,_,none⟩) NB196_182.out _).trans (hHeld.2.2.1)))),((cell_far (p:=⟨gb182,_,none⟩) NB196_182.out _).trans (((cell_far (p:=⟨gb182,_,none⟩) NB196_182.out _).trans (hHeld.2.2.2.1)))),((cell_far (p:=⟨gb182,_,none⟩) NB189_182.out _).trans (((cell_far (p:=⟨gb182,_,none⟩) NB189_182.out _).trans (hHeld.2.2.2.2.1)))),((cell_far (p:=⟨gb182,_,none⟩) NB189_182.out _).trans (((cell_far (p:=⟨gb182,_,none⟩) NB189_182.out _).trans (hHeld.2.2.2.2.2))))⟩ (fun hHeld=>?_)
 clear hK K
 refine one_ (i:=7) (N:=none) (ba 8 255) rfl rfl (one_of HT_.out (by kernel_rfl)) (by decide) (fun K hK=>?_)
 have hs42:w39.cell? ⟨gb183,0,none⟩ = some (.int .i64 0):=cz BK183 0
 have hfs42:=blk_frozen BK183.out 0
 have hns42_0:=NB181_183.out
 have hns42_1:=NB182_183.out
 have hns42_3:=NB188_183.out
 have hns42_4:=NB189_183.out
 have hns42_5:=NB196_183.out
 have hms42_0:=NB183_181.out
 have hms42_1:=NB183_182.out
 have hms42_3:=NB183_188.out
 have hms42_4:=NB183_189.out
 have hms42_5:=NB183_196.out
 have hs43:w39.cell? ⟨gb183,1,none⟩ = some (.int .i64 0):=cz BK183 1
 have hfs43:=blk_frozen BK183.out 1
 have hns43_0:=NB181_183.out
 have hns43_1:=NB182_183.out
 have hns43_3:=NB188_183.out
 have hns43_4:=NB189_183.out
 have hns43_5:=NB196_183.out
 have hms43_0:=NB183_181.out
 have hms43_1:=NB183_182.out
 have hms43_3:=NB183_188.out
 have hms43_4:=NB183_189.out
 have hms43_5:=NB183_196.out
 refine skip_ (w1:=?_) (by rfl) rfl ?_ ?_
 rotate_left
 ·go_simp
  rfl
 refine hK.out _ _ ⟨((cell_far (p:=⟨gb183,_,none⟩) NB188_183.out _).trans (((cell_far (p:=⟨gb183,_,none⟩) NB188_183.out _).trans (hHeld.1)))),((cell_far (p:=⟨gb183,_,none⟩) NB188_183.out _).trans (((cell_far (p:=⟨gb183,_,none⟩) NB188_183.out _).trans (hHeld.2.1)))),((cell_far (p:=⟨gb183,_,none⟩) NB196_183.out _).trans (((cell_far (p:=⟨gb183,_,none⟩) NB196_183.out _).trans (hHeld.2.2.1)))),((cell_far (p:=⟨gb183,_,none⟩) NB196_183.out _).trans (((cell_far (p:=⟨gb183,_,none⟩) NB196_183.out _).trans (hHeld.2.2.2.1)))),((cell_far (p:=⟨gb183,_,none⟩) NB189_183.out _).trans (((cell_far (p:=⟨gb183,_,none⟩) NB189_183.out _).trans (hHeld.2.2.2.2.1)))),((cell_far (p:=⟨gb183,_,none⟩) NB189_183.out _).trans (((cell_far (p:=⟨gb183,_,none⟩) NB189_183.out _).trans (hHeld.2.2.2.2.2))))⟩ (fun hHeld=>?_)
 clear hK K
 refine done_ (done_of HT_.out (by kernel_rfl)) ?_
 try go_wp2
 refine bodyPost_ret (results_cc rfl _ _ gb182 gb183 23 23 #[.int .i64 t197,.int .i64 t198] #[.int .i64 t199,.int .i64 t200] (0,0) (0,0) _ _ rfl (by refine blk_far ?_ NB182_183.out _;refine blk_far ?_ NB182_183.out _;refine blk_put (cs:=#[.int .i64 t197,.int .i64 0]) ?_ 1 _ rfl;refine blk_put (cs:=#[.int .i64 0,.int .i64 0]) ?_ 0 _ rfl;exact BK182.out) Try.underlying23 rfl (by kernel_rfl) rfl (by refine blk_put (cs:=#[.int .i64 t199,.int .i64 0]) ?_ 1 _ rfl;refine blk_put (cs:=#[.int .i64 0,.int .i64 0]) ?_ 0 _ rfl;refine blk_far ?_ NB183_182.out _;refine blk_far ?_ NB183_182.out _;exact BK183.out) Try.underlying23 rfl (by kernel_rfl)) rfl ?_
 exact ⟨rfl,bl HB⟩
def shares_Garment.f (k:Nat) (a0:Int) (a1:Int) (a2:Int):Option (Int × Int × Int × Int × Int):=(shares_newClaims.f k (([a1,a2]:List Int)) a0).bind fun bt206=>(if bt206.2.2 = true then ((shares_whole.f a0).bind fun bt212=>((shares_garment.f k bt212.1 bt212.2 a1 a2).bind fun bt214=>(some (bt214.1,bt214.2.1,bt214.2.2.1,bt214.2.2.2,0)))) else (some (0,0,0,0,2)))
theorem shares_Garment.mono:∀ a0 a1 a2 k,LeO (shares_Garment.f k a0 a1 a2) (shares_Garment.f (k + 1) a0 a1 a2):=by
 intro a0 a1 a2 k
 unfold shares_Garment.f
 repeat' first
   | (with_reducible first | exact shares_garment.mono _ _ _ _ _ | exact shares_newClaims.mono _ _ _ | exact LeO.refl _ | exact LeO.none _ | refine LeO.ite ?_ ?_ | refine LeO.bind ?_ (fun _=>?_))
   | exact LeO.none _ | refine LeO.ite ?_ ?_ | refine LeO.bind ?_ (fun _=>?_)
theorem shares_Garment.calls (k:Nat) (a0:Int) (a1:Int) (a2:Int) (r1:Int) (r2:Int) (r3:Int) (r4:Int) (r5:Int) (w:World) (h:shares_Garment.f k a0 a1 a2 = some (r1,r2,r3,r4,r5)) :
  Calls Try.prog 20 #[.int .i64 a0,.int .i64 a1,.int .i64 a2] w fun e w'=>e = .returned (.tuple #[.agg #[.int .i64 r1,.int .i64 r2],.agg #[.int .i64 r3,.int .i64 r4],.int .i64 r5]) ∧ Below w.heap.size w w':=by
 have hu23:=Try.underlying23
 have hu94:=Try.underlying94
 have HB:=A_ (Below.refl w.heap.size w)
 have H:((shares_newClaims.f k (([a1,a2]:List Int)) a0).bind fun bt206=>(if bt206.2.2 = true then ((shares_whole.f a0).bind fun bt212=>((shares_garment.f k bt212.1 bt212.2 a1 a2).bind fun bt214=>(some (bt214.1,bt214.2.1,bt214.2.2.1,bt214.2.2.2,0)))) else (some (0,0,0,0,2)))) = some (r1,r2,r3,r4,r5):=h
 clear h
 obtain ⟨y203,hy203⟩:∃ y_:List Int,y_ = (([a1,a2]:List Int)):=⟨_,rfl⟩
 replace H:((shares_newClaims.f k y203 a0).bind fun bt206=>(if bt206.2.2 = true then ((shares_whole.f a0).bind fun bt212=>((shares_garment.f k bt212.1 bt212.2 a1 a2).bind fun bt214=>(some (bt214.1,bt214.2.1,bt214.2.2.1,bt214.2.2.2,0)))) else (some (0,0,0,0,2)))) = some (r1,r2,r3,r4,r5):=by rw [hy203];exact H
 have Ny203:=A_ hy203
 clear hy203
 replace H:=Option.bind_eq_some_iff.mp H
 obtain ⟨⟨t206,t209,t210⟩,A40,H⟩:=H
 dsimp only at H
 have A4:=A_ A40
 clear A40
 by_cases c5:t210 = true
 case neg =>
  replace c5:=Bool.eq_false_iff.mpr c5
  subst c5
  rw [if_neg (show ¬ (false = true) by decide)] at H
  simp only [Option.some.injEq,Prod.mk.injEq] at H
  obtain ⟨rfl,rfl,rfl,rfl,rfl⟩:=H
  go_enter Try.func20,Try.ntmps20
  go_wp2_with (first | ((with_reducible refine gate_dst (N:=6) rfl ?_);refine bx 6 #[.int .i64 0,.int .i64 0] 23 ?_;intro gb201 hg w38 hbox hb;have BK201:=A_ hbox;have GW201:=gw hg HB;have GE201:=GW201;replace HB:=bB HB hb;clear hb hbox hg) | ((with_reducible refine gate_dst (N:=7) rfl ?_);refine bx 7 #[.int .i64 0,.int .i64 0] 23 ?_;intro gb202 hg w39 hbox hb;have BK202:=A_ hbox;have GW202:=gw hg HB;have GE202:=GW202;have NB201_202:=nl hg BK201;have NB202_201:=ng hg BK201;replace BK201:=kB BK201 hb;replace HB:=bB HB hb;clear hb hbox hg) | ((with_reducible refine gate_dst (N:=16) rfl ?_);refine Kd.R_lit (Kd.int .i64) _ 3 ?hg (N:=16) ?hd (xs:=([a1,a2]:List Int)) (inner:=[.int .i64 a1,.int .i64 a2]) (ok:=fun _=>True) (okp:=fun _=>True) ?hr ?hp (fun _ hk=>hk) trivial (Below.refl _ _) (Nat.le_refl _) (by simp) ?_;(case hd=>rfl);(case hg=>rfl);(case hr=>first | (go_simp;done) | (go_simp;rfl));(case hp=>exact (Reps.one (show Kd.M (Kd.int .i64) _ _ _ a1 [.int .i64 a1] from rfl) (Reps.one (show Kd.M (Kd.int .i64) _ _ _ a2 [.int .i64 a2] from rfl) (Reps.none _ _))));intro v204 w40 ho41 hb hg_ hnew_;clear hg_ hnew_;(first | rw [← Ny203.out] at ho41 | (simp only [Int.reduceToNat] at ho41;rw [← Ny203.out] at ho41));have HO205:=A_ (Kd.R_lower ho41 (below_size HB.out));replace BK201:=kB BK201 hb;replace BK202:=kB BK202 hb;replace HB:=bB HB hb;clear hb ho41;obtain ⟨Ao42,co42,eo42⟩:=Kd.R_slice HO205.out;subst eo42) | ((with_reducible refine gate_callee (f:=62) rfl ?_);refine gL (some 18) Try.func62 #[.slice Ao42 y203.length co42,.int .i64 a0] ?_;(with_reducible refine (shares_newClaims.calls k (fun k_=>some k_ = (.slice Ao42 y203.length co42:Value).ownBlock) (.slice Ao42 y203.length co42) y203 a0 t206 t209 false w _ ?side1 ?side2 A4.out).mono ?_);(case side1=>repeat (first | (with_reducible first | exact HB.out | apply below_alloc | apply pw_below_drewN | apply below_drew1 | refine below_set ?_ GE201.out | refine below_set ?_ GE202.out) | exact HB.out));(case side2=>exact Kd.R_tight rfl HO205.out);rintro e w43 ⟨v207,rfl,ho0,hb,hkp⟩;refine ⟨_,rfl,?_⟩;have HO208:=A_ (Kd.R_mono (ok':=fun k_=>True) ho0 (fun k_ hk_=>trivial));replace BK201:=A_ (blk_kept BK201.out hkp (fun hs_=>(fun e_=>(Kd.R_ne HO205.out BK201.out (by decide)) e_) hs_));replace BK202:=A_ (blk_kept BK202.out hkp (fun hs_=>(fun e_=>(Kd.R_ne HO205.out BK202.out (by decide)) e_) hs_));replace HB:=A_ hb;clear HO205;(try clear hb)) | ((with_reducible refine gate_dst (N:=9) rfl ?_);refine bx 9 #[.slice none 0 0,.int .i64 0] 94 ?_;intro gb211 hg w44 hbox hb;have BK211:=A_ hbox;have GW211:=gw hg HB;have GE211:=GW211;have NB201_211:=nl hg BK201;have NB211_201:=ng hg BK201;have NB202_211:=nl hg BK202;have NB211_202:=ng hg BK202;replace HO208:=rB HO208 hb;replace BK201:=kB BK201 hb;replace BK202:=kB BK202 hb;replace HB:=bB HB hb;clear hb hbox hg;obtain ⟨Ao45,co45,eo45⟩:=Kd.R_slice HO208.out;subst eo45;have hnb46:=NB211_201.out;have hnc46:=NB201_211.out;have hnb47:=NB211_202.out;have hnc47:=NB202_211.out;have hcz48_0:w44.cell? ⟨gb211,0,none⟩ = some (.slice none 0 0):=cz BK211 0;have hcz48_1:w44.cell? ⟨gb211,1,none⟩ = some (.int .i64 0):=cz BK211 1;have hfz48_0:=blk_frozen BK211.out 0;have hfz48_1:=blk_frozen BK211.out 1;have hnb49:=NB201_202.out;have hnc49:=NB202_201.out;have hcz50_0:w44.cell? ⟨gb201,0,none⟩ = some (.int .i64 0):=cz BK201 0;have hcz50_1:w44.cell? ⟨gb201,1,none⟩ = some (.int .i64 0):=cz BK201 1;have hfz50_0:=blk_frozen BK201.out 0;have hfz50_1:=blk_frozen BK201.out 1;have hcz51_0:w44.cell? ⟨gb202,0,none⟩ = some (.int .i64 0):=cz BK202 0;have hcz51_1:w44.cell? ⟨gb202,1,none⟩ = some (.int .i64 0):=cz BK202 1;have hfz51_0:=blk_frozen BK202.out 0;have hfz51_1:=blk_frozen BK202.out 1))
  refine bodyPost_ret (results_list (rs:=[.cell 6 23,.cell 7 23,.tmp 8]) rfl (by simp) (.cell gb201 23 #[.int .i64 0,.int .i64 0] (0,0) _ rfl (by refine blk_far ?_ NB201_202.out _;refine blk_far ?_ NB201_202.out _;refine blk_put (cs:=#[.int .i64 0,.int .i64 0]) ?_ 1 _ rfl;refine blk_put (cs:=#[.int .i64 0,.int .i64 0]) ?_ 0 _ rfl;refine blk_far ?_ NB201_211.out _;refine blk_far ?_ NB201_211.out _;exact BK201.out) Try.underlying23 rfl (by kernel_rfl) (.cell gb202 23 #[.int .i64 0,.int .i64 0] (0,0) _ rfl (by refine blk_put (cs:=#[.int .i64 0,.int .i64 0]) ?_ 1 _ rfl;refine blk_put (cs:=#[.int .i64 0,.int .i64 0]) ?_ 0 _ rfl;refine blk_far ?_ NB202_201.out _;refine blk_far ?_ NB202_201.out _;refine blk_far ?_ NB202_211.out _;refine blk_far ?_ NB202_211.out _;exact BK202.out) Try.underlying23 rfl (by kernel_rfl) (.tmp .nil)))) rfl ?_
  exact ⟨rfl,bl HB⟩
 subst c5
 rw [if_pos rfl] at H
 replace H:=Option.bind_eq_some_iff.mp H
 obtain ⟨⟨t212,t213⟩,A60,H⟩:=H
 dsimp only at H
 have A6:=A_ A60
 clear A60
 replace H:=Option.bind_eq_some_iff.mp H
 obtain ⟨⟨t214,t215,t216,t217⟩,A70,H⟩:=H
 dsimp only at H
 have A7:=A_ A70
 clear A70
 simp only [Option.some.injEq,Prod.mk.injEq] at H
 obtain ⟨rfl,rfl,rfl,rfl,rfl⟩:=H
 go_enter Try.func20,Try.ntmps20
 try go_wp2_with (first | ((with_reducible refine gate_dst (N:=6) rfl ?_);refine bx 6 #[.int .i64 0,.int .i64 0] 23 ?_;intro gb201 hg w8 hbox hb;have BK201:=A_ hbox;have GW201:=gw hg HB;have GE201:=GW201;replace HB:=bB HB hb;clear hb hbox hg) | ((with_reducible refine gate_dst (N:=7) rfl ?_);refine bx 7 #[.int .i64 0,.int .i64 0] 23 ?_;intro gb202 hg w9 hbox hb;have BK202:=A_ hbox;have GW202:=gw hg HB;have GE202:=GW202;have NB201_202:=nl hg BK201;have NB202_201:=ng hg BK201;replace BK201:=kB BK201 hb;replace HB:=bB HB hb;clear hb hbox hg) | ((with_reducible refine gate_dst (N:=16) rfl ?_);refine Kd.R_lit (Kd.int .i64) _ 3 ?hg (N:=16) ?hd (xs:=([a1,a2]:List Int)) (inner:=[.int .i64 a1,.int .i64 a2]) (ok:=fun _=>True) (okp:=fun _=>True) ?hr ?hp (fun _ hk=>hk) trivial (Below.refl _ _) (Nat.le_refl _) (by simp) ?_;(case hd=>rfl);(case hg=>rfl);(case hr=>first | (go_simp;done) | (go_simp;rfl));(case hp=>exact (Reps.one (show Kd.M (Kd.int .i64) _ _ _ a1 [.int .i64 a1] from rfl) (Reps.one (show Kd.M (Kd.int .i64) _ _ _ a2 [.int .i64 a2] from rfl) (Reps.none _ _))));intro v204 w10 ho11 hb hg_ hnew_;clear hg_ hnew_;(first | rw [← Ny203.out] at ho11 | (simp only [Int.reduceToNat] at ho11;rw [← Ny203.out] at ho11));have HO205:=A_ (Kd.R_lower ho11 (below_size (bl HB)));replace BK201:=kB BK201 hb;replace BK202:=kB BK202 hb;replace HB:=bB HB hb;clear hb ho11;obtain ⟨Ao12,co12,eo12⟩:=Kd.R_slice HO205.out;subst eo12) | ((with_reducible refine gate_callee (f:=62) rfl ?_);refine gL (some 18) Try.func62 #[.slice Ao12 y203.length co12,.int .i64 a0] ?_;(with_reducible refine (shares_newClaims.calls k (fun k_=>some k_ = (.slice Ao12 y203.length co12:Value).ownBlock) (.slice Ao12 y203.length co12) y203 a0 t206 t209 true w _ ?side1 ?side2 A4.out).mono ?_);(case side1=>repeat (first | (with_reducible first | exact HB.out | apply below_alloc | apply pw_below_drewN | apply below_drew1 | refine below_set ?_ GE201.out | refine below_set ?_ GE202.out) | exact HB.out));(case side2=>exact Kd.R_tight rfl HO205.out);rintro e w13 ⟨v207,rfl,ho0,hb,hkp⟩;refine ⟨_,rfl,?_⟩;have HO208:=A_ (Kd.R_mono (ok':=fun k_=>True) ho0 (fun k_ hk_=>trivial));replace BK201:=A_ (blk_kept BK201.out hkp (fun hs_=>(fun e_=>(Kd.R_ne HO205.out BK201.out (by decide)) e_) hs_));replace BK202:=A_ (blk_kept BK202.out hkp (fun hs_=>(fun e_=>(Kd.R_ne HO205.out BK202.out (by decide)) e_) hs_));replace HB:=A_ hb;clear HO205;(try clear hb)) | ((with_reducible refine gate_dst (N:=9) rfl ?_);refine bx 9 #[.slice none 0 0,.int .i64 0] 94 ?_;intro gb211 hg w14 hbox hb;have BK211:=A_ hbox;have GW211:=gw hg HB;have GE211:=GW211;have NB201_211:=nl hg BK201;have NB211_201:=ng hg BK201;have NB202_211:=nl hg BK202;have NB211_202:=ng hg BK202;replace HO208:=rB HO208 hb;replace BK201:=kB BK201 hb;replace BK202:=kB BK202 hb;replace HB:=bB HB hb;clear hb hbox hg;obtain ⟨Ao15,co15,eo15⟩:=Kd.R_slice HO208.out;subst eo15;have hnb16:=NB211_201.out;have hnc16:=NB201_211.out;have hnb17:=NB211_202.out;have hnc17:=NB202_211.out;have hcz18_0:w14.cell? ⟨gb211,0,none⟩ = some (.slice none 0 0):=cz BK211 0;have hcz18_1:w14.cell? ⟨gb211,1,none⟩ = some (.int .i64 0):=cz BK211 1;have hfz18_0:=blk_frozen BK211.out 0;have hfz18_1:=blk_frozen BK211.out 1) | ((with_reducible refine gate_callee (f:=64) rfl ?_);refine gL (some 27) Try.func64 #[.int .i64 a0] ?_;(with_reducible refine (shares_whole.calls a0 t212 t213 _ A6.out).mono ?_);rintro e w19 ⟨rfl,hb⟩;refine ⟨_,rfl,?_⟩;replace HO208:=A_ (Kd.R_below (by exact (Kd.R_mono (Kd.R_far (p:=⟨gb211,1,none⟩) (Kd.R_far (p:=⟨gb211,0,none⟩) (Kd.R_types HO208.out BK211.out (by decide)) (fun _ hk=>hk.2) (.slice Ao15 t206.length co15)) (fun _ hk=>hk.2) (.int .i64 t209)) (fun _ h_=>h_.1))) hb);replace BK201:=kB BK201 hb;replace BK202:=kB BK202 hb;replace BK211:=A_ (blk_below (g:=gb211) (o:=.cells #[.slice Ao15 t206.length co15,.int .i64 t209] 94 (0,0)) (by refine blk_put (cs:=#[.slice Ao15 t206.length co15,.int .i64 0]) ?_ 1 _ rfl;refine blk_put (cs:=#[.slice none 0 0,.int .i64 0]) ?_ 0 _ rfl;exact BK211.out) hb);replace HB:=bB HB hb;(try clear hb)) | ((with_reducible refine gate_callee (f:=63) rfl ?_);refine gL (some 30) Try.func63 #[.agg #[.int .i64 t212,.int .i64 t213],.int .i64 a1,.int .i64 a2] ?_;(with_reducible refine (shares_garment.calls k t212 t213 a1 a2 t214 t215 t216 t217 _ A7.out).mono ?_);rintro e w20 ⟨rfl,hb⟩;refine ⟨_,rfl,?_⟩;replace HO208:=rB HO208 hb;replace BK201:=kB BK201 hb;replace BK202:=kB BK202 hb;replace BK211:=kB BK211 hb;replace HB:=bB HB hb;(try clear hb)) | ((with_reducible refine gate_dst (N:=11) rfl ?_);refine bx 11 #[.int .i64 0,.int .i64 0] 23 ?_;intro gb218 hg w21 hbox hb;have BK218:=A_ hbox;have GW218:=gw hg HB;have GE218:=GW218;have NB201_218:=nl hg BK201;have NB218_201:=ng hg BK201;have NB202_218:=nl hg BK202;have NB218_202:=ng hg BK202;have NB211_218:=nl hg BK211;have NB218_211:=ng hg BK211;replace HO208:=rB HO208 hb;replace BK201:=kB BK201 hb;replace BK202:=kB BK202 hb;replace BK211:=kB BK211 hb;replace HB:=bB HB hb;clear hb hbox hg) | ((with_reducible refine gate_dst (N:=12) rfl ?_);refine bx 12 #[.int .i64 0,.int .i64 0] 23 ?_;intro gb219 hg w22 hbox hb;have BK219:=A_ hbox;have GW219:=gw hg HB;have GE219:=GW219;have NB201_219:=nl hg BK201;have NB219_201:=ng hg BK201;have NB202_219:=nl hg BK202;have NB219_202:=ng hg BK202;have NB211_219:=nl hg BK211;have NB219_211:=ng hg BK211;have NB218_219:=nl hg BK218;have NB219_218:=ng hg BK218;replace HO208:=rB HO208 hb;replace BK201:=kB BK201 hb;replace BK202:=kB BK202 hb;replace BK211:=kB BK211 hb;replace BK218:=kB BK218 hb;replace HB:=bB HB hb;clear hb hbox hg;have hnb23:=NB218_201.out;have hnc23:=NB201_218.out;have hnb24:=NB218_202.out;have hnc24:=NB202_218.out;have hnb25:=NB218_211.out;have hnc25:=NB211_218.out;have hnb26:=NB218_219.out;have hnc26:=NB219_218.out;have hcz27_0:w22.cell? ⟨gb218,0,none⟩ = some (.int .i64 0):=cz BK218 0;have hcz27_1:w22.cell? ⟨gb218,1,none⟩ = some (.int .i64 0):=cz BK218 1;have hfz27_0:=blk_frozen BK218.out 0;have hfz27_1:=blk_frozen BK218.out 1;have hnb28:=NB219_201.out;have hnc28:=NB201_219.out;have hnb29:=NB219_202.out;have hnc29:=NB202_219.out;have hnb30:=NB219_211.out;have hnc30:=NB211_219.out;have hcz31_0:w22.cell? ⟨gb219,0,none⟩ = some (.int .i64 0):=cz BK219 0;have hcz31_1:w22.cell? ⟨gb219,1,none⟩ = some (.int .i64 0):=cz BK219 1;have hfz31_0:=blk_frozen BK219.out 0;have hfz31_1:=blk_frozen BK219.out 1))
 have n0_:Aside0 (Kd.R (Kd.int .i64) 3 ((((w22.setCell ⟨gb218,0,none⟩ (.int .i64 t214)).setCell ⟨gb218,1,none⟩ (.int .i64 t215)).setCell ⟨gb219,0,none⟩ (.int .i64 t216)).setCell ⟨gb219,1,none⟩ (.int .i64 t217)) w.heap.size (fun _=>True) (.slice Ao15 t206.length co15) t206):=⟨by exact Kd.R_mono (Kd.R_far (p:=⟨gb219,1,none⟩) (Kd.R_far (p:=⟨gb219,0,none⟩) (Kd.R_far (p:=⟨gb218,1,none⟩) (Kd.R_far (p:=⟨gb218,0,none⟩) (Kd.R_types (Kd.R_types HO208.out BK218.out (by decide)) BK219.out (by decide)) (fun _ hk=>hk.1.2) (.int .i64 t214)) (fun _ hk=>hk.1.2) (.int .i64 t215)) (fun _ hk=>hk.2) (.int .i64 t216)) (fun _ hk=>hk.2) (.int .i64 t217)) (fun _ hk=>trivial)⟩
 have n1_:Aside0 (((((w22.setCell ⟨gb218,0,none⟩ (.int .i64 t214)).setCell ⟨gb218,1,none⟩ (.int .i64 t215)).setCell ⟨gb219,0,none⟩ (.int .i64 t216)).setCell ⟨gb219,1,none⟩ (.int .i64 t217)).heap[gb201]? = some (.cells #[.int .i64 0,.int .i64 0] 23 (0,0))):=⟨by refine blk_far ?_ NB201_219.out _;refine blk_far ?_ NB201_219.out _;refine blk_far ?_ NB201_218.out _;refine blk_far ?_ NB201_218.out _;exact BK201.out⟩
 have n2_:Aside0 (((((w22.setCell ⟨gb218,0,none⟩ (.int .i64 t214)).setCell ⟨gb218,1,none⟩ (.int .i64 t215)).setCell ⟨gb219,0,none⟩ (.int .i64 t216)).setCell ⟨gb219,1,none⟩ (.int .i64 t217)).heap[gb202]? = some (.cells #[.int .i64 0,.int .i64 0] 23 (0,0))):=⟨by refine blk_far ?_ NB202_219.out _;refine blk_far ?_ NB202_219.out _;refine blk_far ?_ NB202_218.out _;refine blk_far ?_ NB202_218.out _;exact BK202.out⟩
 have n3_:Aside0 (((((w22.setCell ⟨gb218,0,none⟩ (.int .i64 t214)).setCell ⟨gb218,1,none⟩ (.int .i64 t215)).setCell ⟨gb219,0,none⟩ (.int .i64 t216)).setCell ⟨gb219,1,none⟩ (.int .i64 t217)).heap[gb211]? = some (.cells #[.slice Ao15 t206.length co15,.int .i64 t209] 94 (0,0))):=⟨by refine blk_far ?_ NB211_219.out _;refine blk_far ?_ NB211_219.out _;refine blk_far ?_ NB211_218.out _;refine blk_far ?_ NB211_218.out _;exact BK211.out⟩
 have n4_:Aside0 (((((w22.setCell ⟨gb218,0,none⟩ (.int .i64 t214)).setCell ⟨gb218,1,none⟩ (.int .i64 t215)).setCell ⟨gb219,0,none⟩ (.int .i64 t216)).setCell ⟨gb219,1,none⟩ (.int .i64 t217)).heap[gb218]? = some (.cells #[.int .i64 t214,.int .i64 t215] 23 (0,0))):=⟨by refine blk_far ?_ NB218_219.out _;refine blk_far ?_ NB218_219.out _;refine blk_put (cs:=#[.int .i64 t214,.int .i64 0]) ?_ 1 _ rfl;refine blk_put (cs:=#[.int .i64 0,.int .i64 0]) ?_ 0 _ rfl;exact BK218.out⟩
 have n5_:Aside0 (((((w22.setCell ⟨gb218,0,none⟩ (.int .i64 t214)).setCell ⟨gb218,1,none⟩ (.int .i64 t215)).setCell ⟨gb219,0,none⟩ (.int .i64 t216)).setCell ⟨gb219,1,none⟩ (.int .i64 t217)).heap[gb219]? = some (.cells #[.int .i64 t216,.int .i64 t217] 23 (0,0))):=⟨by refine blk_put (cs:=#[.int .i64 t216,.int .i64 0]) ?_ 1 _ rfl;refine blk_put (cs:=#[.int .i64 0,.int .i64 0]) ?_ 0 _ rfl;refine blk_far ?_ NB219_218.out _;refine blk_far ?_ NB219_218.out _;exact BK219.out⟩
 have n6_:Aside0 (Below w.heap.size w ((((w22.setCell ⟨gb218,0,none⟩ (.int .i64 t214)).setCell ⟨gb218,1,none⟩ (.int .i64 t215)).setCell ⟨gb219,0,none⟩ (.int .i64 t216)).setCell ⟨gb219,1,none⟩ (.int .i64 t217))):=⟨bl HB⟩
 generalize ((((w22.setCell ⟨gb218,0,none⟩ (.int .i64 t214)).setCell ⟨gb218,1,none⟩ (.int .i64 t215)).setCell ⟨gb219,0,none⟩ (.int .i64 t216)).setCell ⟨gb219,1,none⟩ (.int .i64 t217)) = w32 at n0_ n1_ n2_ n3_ n4_ n5_ n6_ ⊢
 have HO208:=n0_
 have BK201:=n1_
 have BK202:=n2_
 have BK211:=n3_
 have BK218:=n4_
 have BK219:=n5_
 have HB:=n6_
 clear n0_ n1_ n2_ n3_ n4_ n5_ n6_
 replace HO208:=rD HO208
 replace BK201:=kD BK201
 replace BK202:=kD BK202
 replace BK211:=kD BK211
 replace BK218:=kD BK218
 replace BK219:=kD BK219
 replace HB:=bD HB
 refine start_ (n:=5) (S:=fun w'=>w'.cell? ⟨gb218,0,none⟩ = some (.int .i64 t214) ∧ w'.cell? ⟨gb218,1,none⟩ = some (.int .i64 t215) ∧ w'.cell? ⟨gb219,0,none⟩ = some (.int .i64 t216) ∧ w'.cell? ⟨gb219,1,none⟩ = some (.int .i64 t217)) (ds:=[]) (ba 5 0) (by kernel_rfl) rfl rfl ⟨cz BK218 0,cz BK218 1,cz BK219 0,cz BK219 1⟩ (fun hHeld=>?_)
 generalize w32.drew = w33 at HO208 BK201 BK202 BK211 BK218 BK219 HB hHeld ⊢
 refine tr 0 33 1 hHeld ?_
 refine tr 1 34 3 hHeld ?_
 refine one_ (i:=2) (N:=none) (ba 5 7) rfl rfl (by kernel_rfl) (by decide) (fun K hK=>?_)
 have hs34:w33.cell? ⟨gb201,0,none⟩ = some (.int .i64 0):=cz BK201 0
 have hfs34:=blk_frozen BK201.out 0
 have hns34_1:=NB202_201.out
 have hns34_2:=NB211_201.out
 have hns34_3:=NB218_201.out
 have hns34_4:=NB219_201.out
 have hms34_1:=NB201_202.out
 have hms34_2:=NB201_211.out
 have hms34_3:=NB201_218.out
 have hms34_4:=NB201_219.out
 have hs35:w33.cell? ⟨gb201,1,none⟩ = some (.int .i64 0):=cz BK201 1
 have hfs35:=blk_frozen BK201.out 1
 have hns35_1:=NB202_201.out
 have hns35_2:=NB211_201.out
 have hns35_3:=NB218_201.out
 have hns35_4:=NB219_201.out
 have hms35_1:=NB201_202.out
 have hms35_2:=NB201_211.out
 have hms35_3:=NB201_218.out
 have hms35_4:=NB201_219.out
 refine skip_ (w1:=?_) (by rfl) rfl ?_ ?_
 rotate_left
 ·go_simp
  rfl
 refine hK.out _ _ ⟨((cell_far (p:=⟨gb201,_,none⟩) NB218_201.out _).trans (((cell_far (p:=⟨gb201,_,none⟩) NB218_201.out _).trans (hHeld.1)))),((cell_far (p:=⟨gb201,_,none⟩) NB218_201.out _).trans (((cell_far (p:=⟨gb201,_,none⟩) NB218_201.out _).trans (hHeld.2.1)))),((cell_far (p:=⟨gb201,_,none⟩) NB219_201.out _).trans (((cell_far (p:=⟨gb201,_,none⟩) NB219_201.out _).trans (hHeld.2.2.1)))),((cell_far (p:=⟨gb201,_,none⟩) NB219_201.out _).trans (((cell_far (p:=⟨gb201,_,none⟩) NB219_201.out _).trans (hHeld.2.2.2))))⟩ (fun hHeld=>?_)
 clear hK K
 refine one_ (i:=3) (N:=none) (ba 5 15) rfl rfl (by kernel_rfl) (by decide) (fun K hK=>?_)
 have hs36:w33.cell? ⟨gb202,0,none⟩ = some (.int .i64 0):=cz BK202 0
 have hfs36:=blk_frozen BK202.out 0
 have hns36_0:=NB201_202.out
 have hns36_2:=NB211_202.out
 have hns36_3:=NB218_202.out
 have hns36_4:=NB219_202.out
 have hms36_0:=NB202_201.out
 have hms36_2:=NB202_211.out
 have hms36_3:=NB202_218.out
 have hms36_4:=NB202_219.out
 have hs37:w33.cell? ⟨gb202,1,none⟩ = some (.int .i64 0):=cz BK202 1
 have hfs37:=blk_frozen BK202.out 1
 have hns37_0:=NB201_202.out
 have hns37_2:=NB211_202.out
 have hns37_3:=NB218_202.out
 have hns37_4:=NB219_202.out
 have hms37_0:=NB202_201.out
 have hms37_2:=NB202_211.out
 have hms37_3:=NB202_218.out
 have hms37_4:=NB202_219.out
 refine skip_ (w1:=?_) (by rfl) rfl ?_ ?_
 rotate_left
 ·go_simp
  rfl
 refine hK.out _ _ ⟨((cell_far (p:=⟨gb202,_,none⟩) NB218_202.out _).trans (((cell_far (p:=⟨gb202,_,none⟩) NB218_202.out _).trans (hHeld.1)))),((cell_far (p:=⟨gb202,_,none⟩) NB218_202.out _).trans (((cell_far (p:=⟨gb202,_,none⟩) NB218_202.out _).trans (hHeld.2.1)))),((cell_far (p:=⟨gb202,_,none⟩) NB219_202.out _).trans (((cell_far (p:=⟨gb202,_,none⟩) NB219_202.out _).trans (hHeld.2.2.1)))),((cell_far (p:=⟨gb202,_,none⟩) NB219_202.out _).trans (((cell_far (p:=⟨gb202,_,none⟩) NB219_202.out _).trans (hHeld.2.2.2))))⟩ (fun hHeld=>?_)
 clear hK K
 refine pr 4 8 31 ?_
 refine done_ (by kernel_rfl) ?_
 try go_wp2
 refine bodyPost_ret (results_list (rs:=[.cell 6 23,.cell 7 23,.tmp 8]) rfl (by simp) (.cell gb201 23 #[.int .i64 t214,.int .i64 t215] (0,0) _ rfl (by refine blk_far ?_ NB201_202.out _;refine blk_far ?_ NB201_202.out _;refine blk_put (cs:=#[.int .i64 t214,.int .i64 0]) ?_ 1 _ rfl;refine blk_put (cs:=#[.int .i64 0,.int .i64 0]) ?_ 0 _ rfl;exact BK201.out) Try.underlying23 rfl (by kernel_rfl) (.cell gb202 23 #[.int .i64 t216,.int .i64 t217] (0,0) _ rfl (by refine blk_put (cs:=#[.int .i64 t216,.int .i64 0]) ?_ 1 _ rfl;refine blk_put (cs:=#[.int .i64 0,.int .i64 0]) ?_ 0 _ rfl;refine blk_far ?_ NB202_201.out _;refine blk_far ?_ NB202_201.out _;exact BK202.out) Try.underlying23 rfl (by kernel_rfl) (.tmp .nil)))) rfl ?_
 exact ⟨rfl,bl HB⟩
end Go.Proofs.Ytjohcjfmlhihbaa.G
namespace Go.Proofs.Ytjohcjfmlhihbaa.G
open Go.RowKit Go.Proofs.YtjohcjfmlhihbaaW.PrintWords Go.Proofs.YtjohcjfmlhihbaaW.PrintLast Go.Proofs.YtjohcjfmlhihbaaW.PrintMore
set_option maxHeartbeats 8000000
set_option maxRecDepth 100000
attribute [local go_sem] cond_true cond_false fld23_0 fld23_1 fld45_0 fld45_1 fld109_0 fld109_1 fld94_0 fld94_1 max2_int min2_int max_two min_two max_three min_three max_four min_four   -- for this text's walks alone
def numnahref07_Whole.f (a0:Int):Option (Int × Int):=some (a0,1)
theorem numnahref07_Whole.calls (a0:Int) (r1:Int) (r2:Int) (w:World) (h:numnahref07_Whole.f a0 = some (r1,r2)) :
  Calls Try.prog 23 #[.int .i64 a0] w fun e w'=>e = .returned (.agg #[.int .i64 r1,.int .i64 r2]) ∧ Below w.heap.size w w':=by
 have hu23:=Try.underlying23
 have HB:=Aside0.mk (Below.refl w.heap.size w)
 have H:(some (a0,1)) = some (r1,r2):=h
 clear h
 simp only [Option.some.injEq,Prod.mk.injEq] at H
 obtain ⟨rfl,rfl⟩:=H
 go_enter Try.func23,Try.ntmps23
 go_wp2_with (first | ((with_reducible refine gate_dst (N:=2) rfl ?_);refine box_event ?hg (N:=2) ?hd (cs:=#[.int .i64 0,.int .i64 0]) (t:=23) ?hr ?_;(case hd=>rfl);(case hg=>rfl);(case hr=>first | (go_simp;done) | (go_simp;rfl));intro gb224 hg w2 hbox hb;have n0_:=Aside0.mk (below_step (by repeat (first | (with_reducible first | exact HB.out | apply below_alloc | apply pw_below_drewN | apply below_drew1) | exact HB.out)) hb);have n1_:=Aside0.mk (hbox);have n2_:=Aside0.mk ((by rw [hg];exact (below_size (by repeat (first | (with_reducible first | exact HB.out | apply below_alloc | apply pw_below_drewN | apply below_drew1) | exact HB.out))):w.heap.size ≤ gb224));have n3_:=Aside0.mk ((by rw [hg];exact (below_size (by repeat (first | (with_reducible first | exact HB.out | apply below_alloc | apply pw_below_drewN | apply below_drew1) | exact HB.out))):w.heap.size ≤ gb224));clear HB;have HB:=n0_;have BK224:=n1_;have GW224:=n2_;have GE224:=n3_;clear n0_ n1_ n2_ n3_;clear hb hbox hg;have hcz3_0:w2.cell? ⟨gb224,0,none⟩ = some (.int .i64 0):=(blk_cell BK224.out 0).trans rfl;have hcz3_1:w2.cell? ⟨gb224,1,none⟩ = some (.int .i64 0):=(blk_cell BK224.out 1).trans rfl;have hfz3_0:=blk_frozen BK224.out 0;have hfz3_1:=blk_frozen BK224.out 1))
 refine bodyPost_ret (results_cell_row rfl _ _ gb224 23 #[.int .i64 a0,.int .i64 1] (0,0) _ rfl (by (with_reducible repeat (first | refine blk_drewN ?_ _ | refine blk_drew ?_ | refine blk_alloc ?_ _));refine blk_put (cs:=#[.int .i64 a0,.int .i64 0]) ?_ 1 _ rfl;(with_reducible repeat (first | refine blk_drewN ?_ _ | refine blk_drew ?_ | refine blk_alloc ?_ _));refine blk_put (cs:=#[.int .i64 0,.int .i64 0]) ?_ 0 _ rfl;(with_reducible repeat (first | refine blk_drewN ?_ _ | refine blk_drew ?_ | refine blk_alloc ?_ _));exact BK224.out) Try.underlying23 rfl (by kernel_rfl)) rfl ?_
 exact ⟨by first | rfl | (simp [errW_none,errW_some] <;> rfl) | (simp [*,errW_none,errW_some] <;> rfl),by repeat (first | (with_reducible first | exact HB.out | apply below_alloc | apply pw_below_drewN | apply below_drew1 | refine below_set ?_ GE224.out) | exact HB.out)⟩
end Go.Proofs.Ytjohcjfmlhihbaa.G
namespace Go.Proofs.Ytjohcjfmlhihbaa.G
open Go Go.RowKit Go.Proofs.YtjohcjfmlhihbaaW.PrintWords
def contains102.f (l0:List Int):Option ((Bool)):=if H.fitL l0 then some (l0.any (fun x=>!decide (0 ≤ x ∧ x ≤ 200))) else none
theorem contains102.calls (A0:Option Addr) (c0:Nat) (l0:List Int) (r:Bool) (w:World) (hr0:Kd.C (Kd.int .i64) w A0 l0.length l0) (_:l0.length ≤ c0) (h:contains102.f l0 = some r) :
  Calls Try.prog 80 #[.slice A0 l0.length c0,.func (.func 102) #[] #[]] w fun e w'=>e = .returned (.bool r) ∧ Below w.heap.size w w':=by
 unfold contains102.f at h
 by_cases hf:H.fitL l0
 case neg =>
  rw [if_neg hf] at h
  cases h
 rw [if_pos hf] at h
 obtain rfl:=Option.some.inj h
 exact H.contains102 A0 c0 l0 w hr0 hf
end Go.Proofs.Ytjohcjfmlhihbaa.G
namespace Go.Proofs.Ytjohcjfmlhihbaa.G
open Go.RowKit Go.Proofs.YtjohcjfmlhihbaaW.PrintWords Go.Proofs.YtjohcjfmlhihbaaW.PrintLast Go.Proofs.YtjohcjfmlhihbaaW.PrintMore
set_option maxHeartbeats 8000000
set_option maxRecDepth 100000
attribute [local go_sem] cond_true cond_false fld23_0 fld23_1 fld45_0 fld45_1 fld109_0 fld109_1 fld94_0 fld94_1 max2_int min2_int max_two min_two max_three min_three max_four min_four
mutual
def shares_newNet.j0:Nat → List Int → List (S45) → Bool → Option (Bool)
 | 0,_,_,_=>none
 | k + 1,x0,x1,x23=>if x23 = true then (some false) else (shares_newNet.l0 k x0 x1 (x1.length:Int) 0)
def shares_newNet.l0:Nat → List Int → List (S45) → Int → Int → Option (Bool)
 | 0,_,_,_,_=>none
 | k + 1,x0,x25,x26,x27=>if x27 < x26 then (if 0 ≤ x27 then (if x27 < (x25.length:Int) then ((shares_within.f ((rd_T45 x25 x27).f0) 1 4).bind fun t231=>(if t231 = true then ((shares_within.f (((rd_T45 x25 x27).f1).length:Int) 1 (x0.length:Int)).bind fun t232=>(shares_newNet.j2 k x0 x25 x26 x27 (!t232) ((rd_T45 x25 x27).f0) ((rd_T45 x25 x27).f1))) else (shares_newNet.j2 k x0 x25 x26 x27 true ((rd_T45 x25 x27).f0) ((rd_T45 x25 x27).f1)))) else (none)) else (none)) else (some true)
def shares_newNet.j2:Nat → List Int → List (S45) → Int → Int → Bool → Int → List Int → Option (Bool)
 | 0,_,_,_,_,_,_,_=>none
 | k + 1,x0,x25,x26,x27,x43,x231000,x231001=>if x43 = true then (some false) else (shares_newNet.l1 k x0 x25 x26 x27 x231001 (x231001.length:Int) 0 x231000 x231001)
def shares_newNet.l1:Nat → List Int → List (S45) → Int → Int → List Int → Int → Int → Int → List Int → Option (Bool)
 | 0,_,_,_,_,_,_,_,_,_=>none
 | k + 1,x0,x25,x26,x27,x46,x47,x48,x231000,x231001=>if x48 < x47 then (if 0 ≤ x48 then (if x48 < (x46.length:Int) then ((shares_within.f (rd x46 x48) 0 (wrap64 ((x0.length:Int) - 1))).bind fun t234=>(if t234 = true then (if x48 > 0 then (if 0 ≤ (wrap64 (x48 - 1)) then (if (wrap64 (x48 - 1)) < (x231001.length:Int) then (if (rd x231001 (wrap64 (x48 - 1))) ≥ (rd x46 x48) then (some false) else (shares_newNet.l1 k x0 x25 x26 x27 x46 x47 (wrap64 (x48 + 1)) x231000 x231001)) else (none)) else (none)) else (shares_newNet.l1 k x0 x25 x26 x27 x46 x47 (wrap64 (x48 + 1)) x231000 x231001)) else (some false))) else (none)) else (none)) else (shares_newNet.l0 k x0 x25 x26 (wrap64 (x27 + 1)))
end
def shares_newNet.f (k:Nat) (l0:List Int) (l1:List (S45)):Option (Bool):=(shares_within.f (l0.length:Int) 1 5).bind fun t226=>(if t226 = true then ((shares_within.f (l1.length:Int) 1 6).bind fun t227=>(if t227 = true then ((contains102.f l0).bind fun t228=>(shares_newNet.j0 k l0 l1 t228)) else (shares_newNet.j0 k l0 l1 true))) else (shares_newNet.j0 k l0 l1 true))
theorem shares_newNet.mono_l:∀ k,(∀ y0 y1 y2,LeO (shares_newNet.j0 k y0 y1 y2) (shares_newNet.j0 (k + 1) y0 y1 y2)) ∧ (∀ y0 y1 y2 y3,LeO (shares_newNet.l0 k y0 y1 y2 y3) (shares_newNet.l0 (k + 1) y0 y1 y2 y3)) ∧ (∀ y0 y1 y2 y3 y4 y5 y6,LeO (shares_newNet.j2 k y0 y1 y2 y3 y4 y5 y6) (shares_newNet.j2 (k + 1) y0 y1 y2 y3 y4 y5 y6)) ∧ (∀ y0 y1 y2 y3 y4 y5 y6 y7 y8,LeO (shares_newNet.l1 k y0 y1 y2 y3 y4 y5 y6 y7 y8) (shares_newNet.l1 (k + 1) y0 y1 y2 y3 y4 y5 y6 y7 y8))
 | 0=>⟨fun _ _ _ r h=>by simp [shares_newNet.j0] at h,fun _ _ _ _ r h=>by simp [shares_newNet.l0] at h,fun _ _ _ _ _ _ _ r h=>by simp [shares_newNet.j2] at h,fun _ _ _ _ _ _ _ _ _ r h=>by simp [shares_newNet.l1] at h⟩
 | k + 1=>by
  obtain ⟨ih0,ih1,ih2,ih3⟩:=shares_newNet.mono_l k
  refine ⟨?_,?_,?_,?_⟩
  ·intro y0 y1 y2
   unfold shares_newNet.j0
   repeat' first
   | (with_reducible first | exact ih0 _ _ _ | exact ih1 _ _ _ _ | exact ih2 _ _ _ _ _ _ _ | exact ih3 _ _ _ _ _ _ _ _ _ | exact LeO.refl _ | exact LeO.none _ | refine LeO.ite ?_ ?_ | refine LeO.bind ?_ (fun _=>?_))
   | exact LeO.none _ | refine LeO.ite ?_ ?_ | refine LeO.bind ?_ (fun _=>?_)
  ·intro y0 y1 y2 y3
   unfold shares_newNet.l0
   repeat' first
   | (with_reducible first | exact ih0 _ _ _ | exact ih1 _ _ _ _ | exact ih2 _ _ _ _ _ _ _ | exact ih3 _ _ _ _ _ _ _ _ _ | exact LeO.refl _ | exact LeO.none _ | refine LeO.ite ?_ ?_ | refine LeO.bind ?_ (fun _=>?_))
   | exact LeO.none _ | refine LeO.ite ?_ ?_ | refine LeO.bind ?_ (fun _=>?_)
  ·intro y0 y1 y2 y3 y4 y5 y6
   unfold shares_newNet.j2
   repeat' first
   | (with_reducible first | exact ih0 _ _ _ | exact ih1 _ _ _ _ | exact ih2 _ _ _ _ _ _ _ | exact ih3 _ _ _ _ _ _ _ _ _ | exact LeO.refl _ | exact LeO.none _ | refine LeO.ite ?_ ?_ | refine LeO.bind ?_ (fun _=>?_))
   | exact LeO.none _ | refine LeO.ite ?_ ?_ | refine LeO.bind ?_ (fun _=>?_)
  intro y0 y1 y2 y3 y4 y5 y6 y7 y8
  unfold shares_newNet.l1
  repeat' first
  | (with_reducible first | exact ih0 _ _ _ | exact ih1 _ _ _ _ | exact ih2 _ _ _ _ _ _ _ | exact ih3 _ _ _ _ _ _ _ _ _ | exact LeO.refl _ | exact LeO.none _ | refine LeO.ite ?_ ?_ | refine LeO.bind ?_ (fun _=>?_))
  | exact LeO.none _ | refine LeO.ite ?_ ?_ | refine LeO.bind ?_ (fun _=>?_)
theorem shares_newNet.mono:∀ a0 a1 k,LeO (shares_newNet.f k a0 a1) (shares_newNet.f (k + 1) a0 a1):=by
 intro a0 a1 k
 obtain ⟨ih0,ih1,ih2,ih3⟩:=shares_newNet.mono_l k
 unfold shares_newNet.f
 repeat' first
   | (with_reducible first | exact ih0 _ _ _ | exact ih1 _ _ _ _ | exact ih2 _ _ _ _ _ _ _ | exact ih3 _ _ _ _ _ _ _ _ _ | exact LeO.refl _ | exact LeO.none _ | refine LeO.ite ?_ ?_ | refine LeO.bind ?_ (fun _=>?_))
   | exact LeO.none _ | refine LeO.ite ?_ ?_ | refine LeO.bind ?_ (fun _=>?_)
theorem shares_newNet.calls (k:Nat) (A0:Option Addr) (c0:Nat) (l0:List Int) (A1:Option Addr) (c1:Nat) (l1:List (S45)) (r:Bool) (w:World) (hr0:Kd.C (Kd.int .i64) w A0 l0.length l0) (hc0:l0.length ≤ c0) (hr1:Kd.C k45 w A1 l1.length l1) (hc1:l1.length ≤ c1) (h:shares_newNet.f k l0 l1 = some r) :
  Calls Try.prog 70 #[.slice A0 l0.length c0,.slice A1 l1.length c1] w fun e w'=>e = .returned (.tuple #[cond r (.agg #[.slice A0 l0.length c0,.slice A1 l1.length c1]) (.agg #[.slice none 0 0,.slice none 0 0]),.bool r]) ∧ Below w.heap.size w w':=by
 have hu109:=Try.underlying109
 have hu45:=Try.underlying45
 have HR0:=A_ hr0
 have HC0:=A_ hc0
 clear hr0 hc0
 have HR1:=A_ hr1
 have HC1:=A_ hc1
 clear hr1 hc1
 have HB:=A_ (Below.refl w.heap.size w)
 have H:((shares_within.f (l0.length:Int) 1 5).bind fun t226=>(if t226 = true then ((shares_within.f (l1.length:Int) 1 6).bind fun t227=>(if t227 = true then ((contains102.f l0).bind fun t228=>(shares_newNet.j0 k l0 l1 t228)) else (shares_newNet.j0 k l0 l1 true))) else (shares_newNet.j0 k l0 l1 true))) = some r:=h
 clear h
 have HC3:=A_ H
 clear H
 go_enter Try.func70,Try.ntmps70
 go_upto_region 1 with (first | ((with_reducible refine gate_dst (N:=4) rfl ?_);(try (refine gate_guard (by rfl) ?_;dsimp only));refine bx 4 #[.slice none 0 0,.slice none 0 0] 109 ?_;intro gb225 hg w4 hbox hb;have BK225:=A_ hbox;have GW225:=gw hg HB;have GE225:=GW225;replace HB:=bB HB hb;clear hb hbox hg))
 (try simp only [Act.put,List.setIfInBounds_toArray,List.set_cons_zero,List.set_cons_succ])
 go_cut [23] (fun v23 wc=>∃ (kq:Nat) (x23_2:Bool),v23 = .bool x23_2 ∧ Aside0 (shares_newNet.j0 kq l0 l1 x23_2 = some r) ∧ Aside0 (kq ≤ k) ∧ Aside0 (wc.heap[gb225]? = some (.cells #[(.slice none 0 0),(.slice none 0 0)] 109 (0,0))) ∧ Aside0 (Below w.heap.size w wc))
 case first =>
  have H:=HC3.out
  clear HC3
  replace H:=Option.bind_eq_some_iff.mp H
  obtain ⟨t226,A50,H⟩:=H
  replace H:(if t226 = true then ((shares_within.f (l1.length:Int) 1 6).bind fun t227=>(if t227 = true then ((contains102.f l0).bind fun t228=>(shares_newNet.j0 k l0 l1 t228)) else (shares_newNet.j0 k l0 l1 true))) else (shares_newNet.j0 k l0 l1 true)) = some r:=H
  have A5:=A_ A50
  clear A50
  by_cases c6:t226 = true
  case neg =>
   replace c6:=Bool.eq_false_iff.mpr c6
   subst c6
   rw [if_neg (show ¬ (false = true) by decide)] at H
   have H':=A_ H
   clear H
   go_wp2_with (first | ((with_reducible refine gate_callee (f:=92) rfl ?_);refine gL (some 12) Try.func92 #[.int .i64 (l0.length:Int),.int .i64 1,.int .i64 5] ?_;(with_reducible refine (shares_within.calls (l0.length:Int) 1 5 false _ A5.out).mono ?_);rintro e w' ⟨rfl,⟨nd,rfl⟩⟩;refine ⟨_,rfl,?_⟩))
   go_meet
   case rel=>exact ⟨_,(true),rfl,H',⟨by first | omega | exact Nat.le_refl _⟩,⟨by exact BK225.out⟩,⟨bl HB⟩⟩
  subst c6
  rw [if_pos rfl] at H
  replace H:=Option.bind_eq_some_iff.mp H
  obtain ⟨t227,A70,H⟩:=H
  replace H:(if t227 = true then ((contains102.f l0).bind fun t228=>(shares_newNet.j0 k l0 l1 t228)) else (shares_newNet.j0 k l0 l1 true)) = some r:=H
  have A7:=A_ A70
  clear A70
  by_cases c8:t227 = true
  case neg =>
   replace c8:=Bool.eq_false_iff.mpr c8
   subst c8
   rw [if_neg (show ¬ (false = true) by decide)] at H
   have H':=A_ H
   clear H
   go_wp2_with (first | ((with_reducible refine gate_callee (f:=92) rfl ?_);refine gL (some 12) Try.func92 #[.int .i64 (l0.length:Int),.int .i64 1,.int .i64 5] ?_;(with_reducible refine (shares_within.calls (l0.length:Int) 1 5 true _ A5.out).mono ?_);rintro e w' ⟨rfl,⟨nd,rfl⟩⟩;refine ⟨_,rfl,?_⟩) | (go_at_call 92;(with_reducible refine (shares_within.calls (l1.length:Int) 1 6 false _ A7.out).mono ?_);rintro e w' ⟨rfl,⟨nd,rfl⟩⟩))
   go_meet
   case rel=>exact ⟨_,(true),rfl,H',⟨by first | omega | exact Nat.le_refl _⟩,⟨by exact BK225.out⟩,⟨bl HB⟩⟩
  subst c8
  rw [if_pos rfl] at H
  replace H:=Option.bind_eq_some_iff.mp H
  obtain ⟨t228,A90,H⟩:=H
  replace H:(shares_newNet.j0 k l0 l1 t228) = some r:=H
  have A9:=A_ A90
  clear A90
  have H':=A_ H
  clear H
  go_wp2_with (first | ((with_reducible refine gate_callee (f:=92) rfl ?_);refine gL (some 12) Try.func92 #[.int .i64 (l0.length:Int),.int .i64 1,.int .i64 5] ?_;(with_reducible refine (shares_within.calls (l0.length:Int) 1 5 true _ A5.out).mono ?_);rintro e w' ⟨rfl,⟨nd,rfl⟩⟩;refine ⟨_,rfl,?_⟩) | (go_at_call 92;(with_reducible refine (shares_within.calls (l1.length:Int) 1 6 true _ A7.out).mono ?_);rintro e w' ⟨rfl,⟨nd,rfl⟩⟩) | (go_at_call 80;(with_reducible refine (contains102.calls _ _ l0 t228 _ ?side1 ?side2 A9.out).mono ?_);(case side1=>repeat (first | exact (Kd.C_below HR0.out (bl HB)) | (with_reducible refine Kd.C_alloc ?_ _) | (with_reducible refine Kd.C_drewN ?_ _) | (with_reducible refine Kd.C_drew ?_)));(case side2=>exact HC0.out);rintro e w10 ⟨rfl,hb⟩;replace BK225:=kB BK225 hb;replace HB:=bB HB hb;(try clear hb)))
  go_meet
  case rel=>exact ⟨_,(t228),rfl,H',⟨by first | omega | exact Nat.le_refl _⟩,⟨by exact BK225.out⟩,⟨bl HB⟩⟩
 case rest =>
  clear HC3
  obtain ⟨kq,x23_2,rfl,HA,HJ2,BK225,HB⟩:=hcut
  cases kq with
  | zero=>exact absurd HA.out (by simp [shares_newNet.j0])
  | succ kj2 =>
   have H:=HA.out
   clear HA
   simp only [shares_newNet.j0] at H
   by_cases c11:x23_2 = true
   ·subst c11
    rw [if_pos rfl] at H
    obtain rfl:=Option.some.inj H
    have hcz12_0:wc.cell? ⟨gb225,0,none⟩ = some (.slice none 0 0):=cz BK225 0
    have hcz12_1:wc.cell? ⟨gb225,1,none⟩ = some (.slice none 0 0):=cz BK225 1
    have hfz12_0:=blk_frozen BK225.out 0
    have hfz12_1:=blk_frozen BK225.out 1
    go_wp2
    refine bodyPost_ret (results_ct rfl _ _ gb225 109 #[.slice none 0 0,.slice none 0 0] (0,0) _ rfl (by first | exact blk_put (blk_put BK225.out 0 _ rfl) 1 _ rfl | exact blk_put (blk_put (blk_drewN BK225.out _) 0 _ rfl) 1 _ rfl) Try.underlying109 rfl (by kernel_rfl)) rfl ?_
    exact ⟨rfl,bl HB⟩
   replace c11:=Bool.eq_false_iff.mpr c11
   subst c11
   rw [if_neg (show ¬ (false = true) by decide)] at H
   have H':=A_ H
   clear H
   go_wp2
   go_loopg [27] kj2 (fun kq v27 w'=>∃ (x27_2:Int),v27 = .int .i64 x27_2 ∧ Aside0 (shares_newNet.l0 kq l0 l1 (l1.length:Int) x27_2 = some r) ∧ Aside0 (kq ≤ kj2) ∧ Aside0 (w'.heap[gb225]? = some (.cells #[(.slice none 0 0),(.slice none 0 0)] 109 (0,0))) ∧ Aside0 (Below w.heap.size w w'))
   case atStart=>exact ⟨(0),rfl,H',⟨Nat.le_refl _⟩,⟨by exact BK225.out⟩,⟨bl HB⟩⟩
   case round =>
    clear H'
    obtain ⟨x27_2,rfl,HA,HK2,BK225,HB⟩:=hrel
    cases gk with
    | zero=>exact absurd HA.out (by simp [shares_newNet.l0])
    | succ k2 =>
     have H:=HA.out
     clear HA
     simp only [shares_newNet.l0] at H
     by_cases c13:x27_2 < (l1.length:Int)
     case neg =>
      rw [if_neg c13] at H
      have c13b0:=decide_eq_false c13
      clear c13
      obtain rfl:=Option.some.inj H
      have hcz49_0:wr.cell? ⟨gb225,0,none⟩ = some (.slice none 0 0):=cz BK225 0
      have hcz49_1:wr.cell? ⟨gb225,1,none⟩ = some (.slice none 0 0):=cz BK225 1
      have hfz49_0:=blk_frozen BK225.out 0
      have hfz49_1:=blk_frozen BK225.out 1
      go_wp2
      refine bodyPost_ret (results_ct rfl _ _ gb225 109 #[.slice A0 l0.length c0,.slice A1 l1.length c1] (0,0) _ rfl (by first | exact blk_put (blk_put BK225.out 0 _ rfl) 1 _ rfl | exact blk_put (blk_put (blk_drewN BK225.out _) 0 _ rfl) 1 _ rfl) Try.underlying109 rfl (by kernel_rfl)) rfl ?_
      exact ⟨rfl,bl HB⟩
     rw [if_pos c13] at H
     have c13b0:=decide_eq_true c13
     clear c13
     replace H:=gd H
     obtain ⟨c14,H⟩:=H
     have c14b0:=decide_eq_true c14
     clear c14
     replace H:=gd H
     obtain ⟨c15,H⟩:=H
     have c15b0:=decide_eq_true c15
     clear c15
     have HC16:=A_ H
     clear H
     have p229:0 ≤ (x27_2:Int):=of_decide_eq_true (by assumption)
     have q229:x27_2 < (l1.length:Int):=of_decide_eq_true (by assumption)
     obtain ⟨ad229,A229_1,c229_1,e229,hx229_0,hx229_1,hl229_1,hi229_1⟩:=at_T45 HR1.out x27_2 p229 q229
     cases e229
     replace hx229_0:=(HB.out.cell (World.block_lt_of_cell? w _ hx229_0)).trans hx229_0
     replace hx229_1:=(HB.out.cell (World.block_lt_of_cell? w _ hx229_1)).trans hx229_1
     have HR229_1:=A_ hi229_1
     have HC229_1:=A_ hl229_1
     clear hi229_1 hl229_1
     replace p229:=eq_true p229
     replace q229:=eq_true q229
     go_upto_region 6 with (first | ((with_reducible refine gate_dst (N:=7) rfl ?_);(try (refine gate_guard (by rfl) ?_;dsimp only));refine bx 7 #[.int .i64 0,.slice none 0 0] 45 ?_;intro gb230 hg w17 hbox hb;have BK230:=A_ hbox;have GW230:=gw hg HB;have GE230:=GW230;have NB225_230:=nl hg BK225;have NB230_225:=ng hg BK225;replace BK225:=kB BK225 hb;replace HB:=bB HB hb;clear hb hbox hg;have hnb18:=NB230_225.out;have hnc18:=NB225_230.out;have hcz19_0:w17.cell? ⟨gb230,0,none⟩ = some (.int .i64 0):=cz BK230 0;have hcz19_1:w17.cell? ⟨gb230,1,none⟩ = some (.slice none 0 0):=cz BK230 1;have hfz19_0:=blk_frozen BK230.out 0;have hfz19_1:=blk_frozen BK230.out 1))
     (try simp only [Act.put,List.setIfInBounds_toArray,List.set_cons_zero,List.set_cons_succ])
     go_cut [43] (fun v43 wc=>∃ (kq:Nat) (x43_15:Bool),v43 = .bool x43_15 ∧ Aside0 (shares_newNet.j2 kq l0 l1 (l1.length:Int) x27_2 x43_15 ((rd_T45 l1 x27_2).f0) ((rd_T45 l1 x27_2).f1) = some r) ∧ Aside0 (kq ≤ k2) ∧ Aside0 (wc.heap[gb225]? = some (.cells #[(.slice none 0 0),(.slice none 0 0)] 109 (0,0))) ∧ Aside0 (wc.heap[gb230]? = some (.cells #[.int .i64 ((rd_T45 l1 x27_2).f0),(.slice A229_1 ((rd_T45 l1 x27_2).f1).length c229_1)] 45 (0,0))) ∧ Aside0 (Below w.heap.size w wc))
     case first =>
      have H:=HC16.out
      clear HC16
      replace H:=Option.bind_eq_some_iff.mp H
      obtain ⟨t231,A200,H⟩:=H
      replace H:(if t231 = true then ((shares_within.f (((rd_T45 l1 x27_2).f1).length:Int) 1 (l0.length:Int)).bind fun t232=>(shares_newNet.j2 k2 l0 l1 (l1.length:Int) x27_2 (!t232) ((rd_T45 l1 x27_2).f0) ((rd_T45 l1 x27_2).f1))) else (shares_newNet.j2 k2 l0 l1 (l1.length:Int) x27_2 true ((rd_T45 l1 x27_2).f0) ((rd_T45 l1 x27_2).f1))) = some r:=H
      have A20:=A_ A200
      clear A200
      by_cases c21:t231 = true
      case neg =>
       replace c21:=Bool.eq_false_iff.mpr c21
       subst c21
       rw [if_neg (show ¬ (false = true) by decide)] at H
       have H':=A_ H
       clear H
       have hnb25:=NB230_225.out
       have hnc25:=NB225_230.out
       have hcz26_0:w17.cell? ⟨gb230,0,none⟩ = some (.int .i64 0):=cz BK230 0
       have hcz26_1:w17.cell? ⟨gb230,1,none⟩ = some (.slice none 0 0):=cz BK230 1
       have hfz26_0:=blk_frozen BK230.out 0
       have hfz26_1:=blk_frozen BK230.out 1
       go_wp2_with (first | ((with_reducible refine gate_callee (f:=92) rfl ?_);refine gL (some 33) Try.func92 #[.int .i64 ((rd_T45 l1 x27_2).f0),.int .i64 1,.int .i64 4] ?_;(with_reducible refine (shares_within.calls ((rd_T45 l1 x27_2).f0) 1 4 false _ A20.out).mono ?_);rintro e w' ⟨rfl,⟨nd,rfl⟩⟩;refine ⟨_,rfl,?_⟩))
       go_meet
       case rel=>exact ⟨_,(true),rfl,H',⟨by have:=HJ2.out;have:=HK2.out;first | omega | exact Nat.le_refl _⟩,⟨by refine blk_far ?_ NB225_230.out _;refine blk_far ?_ NB225_230.out _;exact BK225.out⟩,⟨by refine blk_put (cs:=#[.int .i64 ((rd_T45 l1 x27_2).f0),.slice none 0 0]) ?_ 1 _ rfl;refine blk_put (cs:=#[.int .i64 0,.slice none 0 0]) ?_ 0 _ rfl;exact BK230.out⟩,⟨bl HB⟩⟩
      subst c21
      rw [if_pos rfl] at H
      replace H:=Option.bind_eq_some_iff.mp H
      obtain ⟨t232,A220,H⟩:=H
      replace H:(shares_newNet.j2 k2 l0 l1 (l1.length:Int) x27_2 (!t232) ((rd_T45 l1 x27_2).f0) ((rd_T45 l1 x27_2).f1)) = some r:=H
      have A22:=A_ A220
      clear A220
      have H':=A_ H
      clear H
      have hnb23:=NB230_225.out
      have hnc23:=NB225_230.out
      have hcz24_0:w17.cell? ⟨gb230,0,none⟩ = some (.int .i64 0):=cz BK230 0
      have hcz24_1:w17.cell? ⟨gb230,1,none⟩ = some (.slice none 0 0):=cz BK230 1
      have hfz24_0:=blk_frozen BK230.out 0
      have hfz24_1:=blk_frozen BK230.out 1
      go_wp2_with (first | ((with_reducible refine gate_callee (f:=92) rfl ?_);refine gL (some 33) Try.func92 #[.int .i64 ((rd_T45 l1 x27_2).f0),.int .i64 1,.int .i64 4] ?_;(with_reducible refine (shares_within.calls ((rd_T45 l1 x27_2).f0) 1 4 true _ A20.out).mono ?_);rintro e w' ⟨rfl,⟨nd,rfl⟩⟩;refine ⟨_,rfl,?_⟩) | (go_at_call 92;(with_reducible refine (shares_within.calls (((rd_T45 l1 x27_2).f1).length:Int) 1 (l0.length:Int) t232 _ A22.out).mono ?_);rintro e w' ⟨rfl,⟨nd,rfl⟩⟩))
      go_meet
      case rel=>exact ⟨_,(!t232),rfl,H',⟨by have:=HJ2.out;have:=HK2.out;first | omega | exact Nat.le_refl _⟩,⟨by refine blk_far ?_ NB225_230.out _;refine blk_far ?_ NB225_230.out _;exact BK225.out⟩,⟨by refine blk_put (cs:=#[.int .i64 ((rd_T45 l1 x27_2).f0),.slice none 0 0]) ?_ 1 _ rfl;refine blk_put (cs:=#[.int .i64 0,.slice none 0 0]) ?_ 0 _ rfl;exact BK230.out⟩,⟨bl HB⟩⟩
     case rest =>
      clear HC16
      obtain ⟨kq,x43_15,rfl,HA,HJ15,BK225,BK230,HB⟩:=hcut
      cases kq with
      | zero=>exact absurd HA.out (by simp [shares_newNet.j2])
      | succ kj15 =>
       have H:=HA.out
       clear HA
       simp only [shares_newNet.j2] at H
       by_cases c27:x43_15 = true
       ·subst c27
        rw [if_pos rfl] at H
        obtain rfl:=Option.some.inj H
        have hnb28:=NB225_230.out
        have hnc28:=NB230_225.out
        have hcz29_0:wc.cell? ⟨gb225,0,none⟩ = some (.slice none 0 0):=cz BK225 0
        have hcz29_1:wc.cell? ⟨gb225,1,none⟩ = some (.slice none 0 0):=cz BK225 1
        have hfz29_0:=blk_frozen BK225.out 0
        have hfz29_1:=blk_frozen BK225.out 1
        go_wp2
        refine bodyPost_ret (results_ct rfl _ _ gb225 109 #[.slice none 0 0,.slice none 0 0] (0,0) _ rfl (by first | exact blk_put (blk_put BK225.out 0 _ rfl) 1 _ rfl | exact blk_put (blk_put (blk_drewN BK225.out _) 0 _ rfl) 1 _ rfl) Try.underlying109 rfl (by kernel_rfl)) rfl ?_
        exact ⟨rfl,bl HB⟩
       replace c27:=Bool.eq_false_iff.mpr c27
       subst c27
       rw [if_neg (show ¬ (false = true) by decide)] at H
       have H':=A_ H
       clear H
       have hnb30:=NB230_225.out
       have hnc30:=NB225_230.out
       have hcz31_0:wc.cell? ⟨gb230,0,none⟩ = some (.int .i64 ((rd_T45 l1 x27_2).f0)):=cz BK230 0
       have hcz31_1:wc.cell? ⟨gb230,1,none⟩ = some (.slice A229_1 ((rd_T45 l1 x27_2).f1).length c229_1):=cz BK230 1
       have hfz31_0:=blk_frozen BK230.out 0
       have hfz31_1:=blk_frozen BK230.out 1
       go_wp2
       go_loopg [48] kj15 (fun kq v48 w'=>∃ (x48_4:Int),v48 = .int .i64 x48_4 ∧ Aside0 (shares_newNet.l1 kq l0 l1 (l1.length:Int) x27_2 ((rd_T45 l1 x27_2).f1) (((rd_T45 l1 x27_2).f1).length:Int) x48_4 ((rd_T45 l1 x27_2).f0) ((rd_T45 l1 x27_2).f1) = some r) ∧ Aside0 (kq ≤ kj15) ∧ Aside0 (w'.heap[gb225]? = some (.cells #[(.slice none 0 0),(.slice none 0 0)] 109 (0,0))) ∧ Aside0 (w'.heap[gb230]? = some (.cells #[.int .i64 ((rd_T45 l1 x27_2).f0),(.slice A229_1 ((rd_T45 l1 x27_2).f1).length c229_1)] 45 (0,0))) ∧ Aside0 (Below w.heap.size w w'))
       case atStart=>exact ⟨(0),rfl,H',⟨Nat.le_refl _⟩,⟨by exact BK225.out⟩,⟨by exact BK230.out⟩,⟨bl HB⟩⟩
       case round =>
        clear H'
        obtain ⟨x48_4,rfl,HA,HK4,BK225,BK230,HB⟩:=hrel
        cases gk with
        | zero=>exact absurd HA.out (by simp [shares_newNet.l1])
        | succ k4 =>
         have H:=HA.out
         clear HA
         simp only [shares_newNet.l1] at H
         by_cases c32:x48_4 < (((rd_T45 l1 x27_2).f1).length:Int)
         case neg =>
          rw [if_neg c32] at H
          have c32b0:=decide_eq_false c32
          clear c32
          have H':=A_ H
          clear H
          go_wp2
          go_roundg k4
          case measure=>have:=HJ2.out;have:=HK2.out;have:=HJ15.out;have:=HK4.out;omega
          case rel=>exact ⟨(wrap64 (x27_2 + 1)),rfl,H',⟨by have:=HJ2.out;have:=HK2.out;have:=HJ15.out;have:=HK4.out;omega⟩,⟨by exact BK225.out⟩,⟨bl HB⟩⟩
         rw [if_pos c32] at H
         have c32b0:=decide_eq_true c32
         clear c32
         replace H:=gd H
         obtain ⟨c33,H⟩:=H
         have c33b0:=decide_eq_true c33
         clear c33
         replace H:=gd H
         obtain ⟨c34,H⟩:=H
         have c34b0:=decide_eq_true c34
         clear c34
         replace H:=Option.bind_eq_some_iff.mp H
         obtain ⟨t234,A350,H⟩:=H
         replace H:(if t234 = true then (if x48_4 > 0 then (if 0 ≤ (wrap64 (x48_4 - 1)) then (if (wrap64 (x48_4 - 1)) < (((rd_T45 l1 x27_2).f1).length:Int) then (if (rd ((rd_T45 l1 x27_2).f1) (wrap64 (x48_4 - 1))) ≥ (rd ((rd_T45 l1 x27_2).f1) x48_4) then (some false) else (shares_newNet.l1 k4 l0 l1 (l1.length:Int) x27_2 ((rd_T45 l1 x27_2).f1) (((rd_T45 l1 x27_2).f1).length:Int) (wrap64 (x48_4 + 1)) ((rd_T45 l1 x27_2).f0) ((rd_T45 l1 x27_2).f1))) else (none)) else (none)) else (shares_newNet.l1 k4 l0 l1 (l1.length:Int) x27_2 ((rd_T45 l1 x27_2).f1) (((rd_T45 l1 x27_2).f1).length:Int) (wrap64 (x48_4 + 1)) ((rd_T45 l1 x27_2).f0) ((rd_T45 l1 x27_2).f1))) else (some false)) = some r:=H
         have A35:=A_ A350
         clear A350
         by_cases c36:t234 = true
         case neg =>
          replace c36:=Bool.eq_false_iff.mpr c36
          subst c36
          rw [if_neg (show ¬ (false = true) by decide)] at H
          obtain rfl:=Option.some.inj H
          have p233:0 ≤ (x48_4:Int):=of_decide_eq_true (by assumption)
          have q233:x48_4 < (((rd_T45 l1 x27_2).f1).length:Int):=of_decide_eq_true (by assumption)
          obtain ⟨ad233,e233,hx233_0⟩:=Kd.at_int HR229_1.out x48_4 p233 q233
          cases e233
          replace hx233_0:=(HB.out.cell (World.block_lt_of_cell? w _ hx233_0)).trans hx233_0
          replace p233:=eq_true p233
          replace q233:=eq_true q233
          go_wp2_with (first | ((with_reducible refine gate_callee (f:=92) rfl ?_);refine gL (some 57) Try.func92 #[.int .i64 (rd ((rd_T45 l1 x27_2).f1) x48_4),.int .i64 0,.int .i64 (wrap64 ((l0.length:Int) - 1))] ?_;(with_reducible refine (shares_within.calls (rd ((rd_T45 l1 x27_2).f1) x48_4) 0 (wrap64 ((l0.length:Int) - 1)) false _ A35.out).mono ?_);rintro e w' ⟨rfl,⟨nd,rfl⟩⟩;refine ⟨_,rfl,?_⟩;(try (rw [drewN_self wr];generalize hq_:World.drewN wr _ = wr;replace BK225:Aside0 (wr.heap[gb225]? = some (.cells #[.slice none 0 0,.slice none 0 0] 109 (0,0))):=⟨by rw [← hq_];exact BK225.out⟩;replace BK230:Aside0 (wr.heap[gb230]? = some (.cells #[.int .i64 ((rd_T45 l1 x27_2).f0),.slice (some ad233) ((rd_T45 l1 x27_2).f1).length c229_1] 45 (0,0))):=⟨by rw [← hq_];exact BK230.out⟩;replace HB:Aside0 (Below w.heap.size w wr):=⟨by rw [← hq_];exact HB.out⟩;clear hq_));have hnb47:=NB225_230.out;have hnc47:=NB230_225.out;have hcz48_0:wr.cell? ⟨gb225,0,none⟩ = some (.slice none 0 0):=cz BK225 0;have hcz48_1:wr.cell? ⟨gb225,1,none⟩ = some (.slice none 0 0):=cz BK225 1;have hfz48_0:=blk_frozen BK225.out 0;have hfz48_1:=blk_frozen BK225.out 1))
          refine bodyPost_ret (results_ct rfl _ _ gb225 109 #[.slice none 0 0,.slice none 0 0] (0,0) _ rfl (by first | exact blk_put (blk_put BK225.out 0 _ rfl) 1 _ rfl | exact blk_put (blk_put (blk_drewN BK225.out _) 0 _ rfl) 1 _ rfl) Try.underlying109 rfl (by kernel_rfl)) rfl ?_
          exact ⟨rfl,bl HB⟩
         subst c36
         rw [if_pos rfl] at H
         by_cases c37:x48_4 > 0
         case neg =>
          rw [if_neg c37] at H
          have c37b0:=decide_eq_false c37
          clear c37
          have H':=A_ H
          clear H
          have p233:0 ≤ (x48_4:Int):=of_decide_eq_true (by assumption)
          have q233:x48_4 < (((rd_T45 l1 x27_2).f1).length:Int):=of_decide_eq_true (by assumption)
          obtain ⟨ad233,e233,hx233_0⟩:=Kd.at_int HR229_1.out x48_4 p233 q233
          cases e233
          replace hx233_0:=(HB.out.cell (World.block_lt_of_cell? w _ hx233_0)).trans hx233_0
          replace p233:=eq_true p233
          replace q233:=eq_true q233
          go_wp2_with (first | ((with_reducible refine gate_callee (f:=92) rfl ?_);refine gL (some 57) Try.func92 #[.int .i64 (rd ((rd_T45 l1 x27_2).f1) x48_4),.int .i64 0,.int .i64 (wrap64 ((l0.length:Int) - 1))] ?_;(with_reducible refine (shares_within.calls (rd ((rd_T45 l1 x27_2).f1) x48_4) 0 (wrap64 ((l0.length:Int) - 1)) true _ A35.out).mono ?_);rintro e w' ⟨rfl,⟨nd,rfl⟩⟩;refine ⟨_,rfl,?_⟩))
          go_roundg k4
          case measure=>have:=HJ2.out;have:=HK2.out;have:=HJ15.out;have:=HK4.out;omega
          case rel=>exact ⟨(wrap64 (x48_4 + 1)),rfl,H',⟨by have:=HJ2.out;have:=HK2.out;have:=HJ15.out;have:=HK4.out;omega⟩,⟨by exact BK225.out⟩,⟨by exact BK230.out⟩,⟨bl HB⟩⟩
         rw [if_pos c37] at H
         have c37b0:=decide_eq_true c37
         clear c37
         obtain ⟨ji38,hji38⟩:∃ j_:Int,(wrap64 (x48_4 - 1)) = j_:=⟨_,rfl⟩
         replace H:(if 0 ≤ (ji38) then (if (ji38) < (((rd_T45 l1 x27_2).f1).length:Int) then (if (rd ((rd_T45 l1 x27_2).f1) (ji38)) ≥ (rd ((rd_T45 l1 x27_2).f1) x48_4) then (some false) else (shares_newNet.l1 k4 l0 l1 (l1.length:Int) x27_2 ((rd_T45 l1 x27_2).f1) (((rd_T45 l1 x27_2).f1).length:Int) (wrap64 (x48_4 + 1)) ((rd_T45 l1 x27_2).f0) ((rd_T45 l1 x27_2).f1))) else (none)) else (none)) = some r:=by first | (rw [hji38] at H;exact H) | (simp only [hji38] at H ⊢;exact H)
         (try rw [hji38] at A35)
         have hji38w:(IntKind.i64.wrap (x48_4 - 1)) = ji38:=(i64_w _).trans hji38
         replace H:=gd H
         obtain ⟨c39,H⟩:=H
         have c39b0:=decide_eq_true c39
         clear c39
         replace H:=gd H
         obtain ⟨c40,H⟩:=H
         have c40b0:=decide_eq_true c40
         clear c40
         by_cases c41:(rd ((rd_T45 l1 x27_2).f1) (ji38)) ≥ (rd ((rd_T45 l1 x27_2).f1) x48_4)
         case neg =>
          rw [if_neg c41] at H
          have c41b0:=decide_eq_false c41
          clear c41
          have H':=A_ H
          clear H
          have p233:0 ≤ (x48_4:Int):=of_decide_eq_true (by assumption)
          have q233:x48_4 < (((rd_T45 l1 x27_2).f1).length:Int):=of_decide_eq_true (by assumption)
          obtain ⟨ad233,e233,hx233_0⟩:=Kd.at_int HR229_1.out x48_4 p233 q233
          cases e233
          replace hx233_0:=(HB.out.cell (World.block_lt_of_cell? w _ hx233_0)).trans hx233_0
          replace p233:=eq_true p233
          replace q233:=eq_true q233
          go_wp2_with (first | ((with_reducible refine gate_callee (f:=92) rfl ?_);refine gL (some 57) Try.func92 #[.int .i64 (rd ((rd_T45 l1 x27_2).f1) x48_4),.int .i64 0,.int .i64 (wrap64 ((l0.length:Int) - 1))] ?_;(with_reducible refine (shares_within.calls (rd ((rd_T45 l1 x27_2).f1) x48_4) 0 (wrap64 ((l0.length:Int) - 1)) true _ A35.out).mono ?_);rintro e w' ⟨rfl,⟨nd,rfl⟩⟩;refine ⟨_,rfl,?_⟩;have hnb45:=NB230_225.out;have hnc45:=NB225_230.out;have hcz46_0:wr.cell? ⟨gb230,0,none⟩ = some (.int .i64 ((rd_T45 l1 x27_2).f0)):=cz BK230 0;have hcz46_1:wr.cell? ⟨gb230,1,none⟩ = some (.slice (some ad233) ((rd_T45 l1 x27_2).f1).length c229_1):=cz BK230 1;have hfz46_0:=blk_frozen BK230.out 0;have hfz46_1:=blk_frozen BK230.out 1;have p235:0 ≤ ((ji38):Int):=of_decide_eq_true (by assumption);have q235:(ji38) < (((rd_T45 l1 x27_2).f1).length:Int):=of_decide_eq_true (by assumption);obtain ⟨ad235,e235,hx235_0⟩:=Kd.at_int HR229_1.out (ji38) p235 q235;obtain rfl:ad233 = ad235:=(by injection e235);replace hx235_0:=(HB.out.cell (World.block_lt_of_cell? w _ hx235_0)).trans hx235_0;replace p235:=eq_true p235;replace q235:=eq_true q235))
          go_roundg k4
          case measure=>have:=HJ2.out;have:=HK2.out;have:=HJ15.out;have:=HK4.out;omega
          case rel=>exact ⟨(wrap64 (x48_4 + 1)),rfl,H',⟨by have:=HJ2.out;have:=HK2.out;have:=HJ15.out;have:=HK4.out;omega⟩,⟨by exact BK225.out⟩,⟨by exact BK230.out⟩,⟨bl HB⟩⟩
         rw [if_pos c41] at H
         have c41b0:=decide_eq_true c41
         clear c41
         obtain rfl:=Option.some.inj H
         have p233:0 ≤ (x48_4:Int):=of_decide_eq_true (by assumption)
         have q233:x48_4 < (((rd_T45 l1 x27_2).f1).length:Int):=of_decide_eq_true (by assumption)
         obtain ⟨ad233,e233,hx233_0⟩:=Kd.at_int HR229_1.out x48_4 p233 q233
         cases e233
         replace hx233_0:=(HB.out.cell (World.block_lt_of_cell? w _ hx233_0)).trans hx233_0
         replace p233:=eq_true p233
         replace q233:=eq_true q233
         go_wp2_with (first | ((with_reducible refine gate_callee (f:=92) rfl ?_);refine gL (some 57) Try.func92 #[.int .i64 (rd ((rd_T45 l1 x27_2).f1) x48_4),.int .i64 0,.int .i64 (wrap64 ((l0.length:Int) - 1))] ?_;(with_reducible refine (shares_within.calls (rd ((rd_T45 l1 x27_2).f1) x48_4) 0 (wrap64 ((l0.length:Int) - 1)) true _ A35.out).mono ?_);rintro e w' ⟨rfl,⟨nd,rfl⟩⟩;refine ⟨_,rfl,?_⟩;(try (rw [drewN_self wr];generalize hq_:World.drewN wr _ = wr;replace BK225:Aside0 (wr.heap[gb225]? = some (.cells #[.slice none 0 0,.slice none 0 0] 109 (0,0))):=⟨by rw [← hq_];exact BK225.out⟩;replace BK230:Aside0 (wr.heap[gb230]? = some (.cells #[.int .i64 ((rd_T45 l1 x27_2).f0),.slice (some ad233) ((rd_T45 l1 x27_2).f1).length c229_1] 45 (0,0))):=⟨by rw [← hq_];exact BK230.out⟩;replace HB:Aside0 (Below w.heap.size w wr):=⟨by rw [← hq_];exact HB.out⟩;clear hq_));have hnb42:=NB230_225.out;have hnc42:=NB225_230.out;have hcz43_0:wr.cell? ⟨gb230,0,none⟩ = some (.int .i64 ((rd_T45 l1 x27_2).f0)):=cz BK230 0;have hcz43_1:wr.cell? ⟨gb230,1,none⟩ = some (.slice (some ad233) ((rd_T45 l1 x27_2).f1).length c229_1):=cz BK230 1;have hfz43_0:=blk_frozen BK230.out 0;have hfz43_1:=blk_frozen BK230.out 1;have p235:0 ≤ ((ji38):Int):=of_decide_eq_true (by assumption);have q235:(ji38) < (((rd_T45 l1 x27_2).f1).length:Int):=of_decide_eq_true (by assumption);obtain ⟨ad235,e235,hx235_0⟩:=Kd.at_int HR229_1.out (ji38) p235 q235;obtain rfl:ad233 = ad235:=(by injection e235);replace hx235_0:=(HB.out.cell (World.block_lt_of_cell? w _ hx235_0)).trans hx235_0;replace p235:=eq_true p235;replace q235:=eq_true q235;have hcz44_0:wr.cell? ⟨gb225,0,none⟩ = some (.slice none 0 0):=cz BK225 0;have hcz44_1:wr.cell? ⟨gb225,1,none⟩ = some (.slice none 0 0):=cz BK225 1;have hfz44_0:=blk_frozen BK225.out 0;have hfz44_1:=blk_frozen BK225.out 1))
         refine bodyPost_ret (results_ct rfl _ _ gb225 109 #[.slice none 0 0,.slice none 0 0] (0,0) _ rfl (by first | exact blk_put (blk_put BK225.out 0 _ rfl) 1 _ rfl | exact blk_put (blk_put (blk_drewN BK225.out _) 0 _ rfl) 1 _ rfl) Try.underlying109 rfl (by kernel_rfl)) rfl ?_
         exact ⟨by first | rfl | (simp [errW_none,errW_some] <;> rfl) | (simp only [← hji38];first | rfl | (simp [errW_none,errW_some] <;> rfl)) | (simp [*,errW_none,errW_some] <;> rfl),bl HB⟩
end Go.Proofs.Ytjohcjfmlhihbaa.G
namespace Go.Proofs.Ytjohcjfmlhihbaa.G
open Go.RowKit Go.Proofs.YtjohcjfmlhihbaaW.PrintWords Go.Proofs.YtjohcjfmlhihbaaW.PrintLast Go.Proofs.YtjohcjfmlhihbaaW.PrintMore
set_option maxHeartbeats 8000000
set_option maxRecDepth 100000
attribute [local go_sem] cond_true cond_false fld23_0 fld23_1 fld45_0 fld45_1 fld109_0 fld109_1 fld94_0 fld94_1 max2_int min2_int max_two min_two max_three min_three max_four min_four   -- for this text's walks alone
def slices_Index_int_int.l0:Nat → List Int → Int → Int → Int → Option (Int)
 | 0,_,_,_,_=>none
 | k + 1,x0,x1,x7,x8=>if x8 < x7 then (if 0 ≤ x8 then (if x8 < (x0.length:Int) then (if x1 = (rd x0 x8) then (some x8) else (slices_Index_int_int.l0 k x0 x1 x7 (wrap64 (x8 + 1)))) else (none)) else (none)) else (some (-1))
def slices_Index_int_int.f (k:Nat) (l0:List Int) (a1:Int):Option (Int):=slices_Index_int_int.l0 k l0 a1 (l0.length:Int) 0
theorem slices_Index_int_int.mono_l:∀ k,(∀ y0 y1 y2 y3,LeO (slices_Index_int_int.l0 k y0 y1 y2 y3) (slices_Index_int_int.l0 (k + 1) y0 y1 y2 y3))
 | 0=>fun _ _ _ _ r h=>by simp [slices_Index_int_int.l0] at h
 | k + 1=>by
  have ih0:=slices_Index_int_int.mono_l k
  intro y0 y1 y2 y3
  unfold slices_Index_int_int.l0
  repeat' first
  | (with_reducible exact ih0 _ _ _ _)
  | (with_reducible exact LeO.refl _)
  | (with_reducible exact LeO.none _)
  | (with_reducible refine LeO.ite ?_ ?_)
  | (with_reducible refine LeO.bind ?_ (fun _=>?_))
  | exact ih0 _ _ _ _
  | exact LeO.none _
  | refine LeO.ite ?_ ?_
  | refine LeO.bind ?_ (fun _=>?_)
theorem slices_Index_int_int.mono:∀ a0 a1 k,LeO (slices_Index_int_int.f k a0 a1) (slices_Index_int_int.f (k + 1) a0 a1):=by
 intro a0 a1 k
 have ih0:=slices_Index_int_int.mono_l k
 unfold slices_Index_int_int.f
 repeat' first
   | (with_reducible exact ih0 _ _ _ _)
   | (with_reducible exact LeO.refl _)
   | (with_reducible exact LeO.none _)
   | (with_reducible refine LeO.ite ?_ ?_)
   | (with_reducible refine LeO.bind ?_ (fun _=>?_))
   | exact ih0 _ _ _ _
   | exact LeO.none _
   | refine LeO.ite ?_ ?_
   | refine LeO.bind ?_ (fun _=>?_)
theorem slices_Index_int_int.calls (k:Nat) (A0:Option Addr) (c0:Nat) (l0:List Int) (a1:Int) (r:Int) (w:World) (hr0:Kd.C (Kd.int .i64) w A0 l0.length l0) (hc0:l0.length ≤ c0) (h:slices_Index_int_int.f k l0 a1 = some r) :
  Calls Try.prog 131 #[.slice A0 l0.length c0,.int .i64 a1] w fun e w'=>e = .returned (.int .i64 r) ∧ Drawn0 w w':=by
 have HR0:=Aside0.mk hr0
 have HC0:=Aside0.mk hc0
 clear hr0 hc0
 have H:(slices_Index_int_int.l0 k l0 a1 (l0.length:Int) 0) = some r:=h
 clear h
 have H':=Aside0.mk H
 clear H
 go_enter Try.func131,Try.ntmps131
 go_wp2
 go_loopg [8] k (fun kq v8 w'=>∃ (x8_1:Int),v8 = .int .i64 x8_1 ∧ Aside0 (slices_Index_int_int.l0 kq l0 a1 (l0.length:Int) x8_1 = some r) ∧ Aside0 (kq ≤ k) ∧ Drawn0 w w')
 case atStart=>exact ⟨(0),(by first | rfl | (simp;done) | (simp [*];done)),H',⟨Nat.le_refl _⟩,by repeat (first | exact Drawn0.refl _ | apply Drawn0.step)⟩
 case round =>
  clear H'
  try clear c1
  try clear p2
  obtain ⟨x8_1,rfl,HA,HK1,⟨m1,rfl⟩⟩:=hrel
  cases gk with
  | zero=>exact absurd HA.out (by simp [slices_Index_int_int.l0])
  | succ k1 =>
   have H:=HA.out
   clear HA
   simp only [slices_Index_int_int.l0] at H
   by_cases c3:x8_1 < (l0.length:Int)
   case neg =>
    rw [if_neg c3] at H
    have c3b0:decide (x8_1 < (l0.length:Int)) = false:=decide_eq_false c3
    clear c3
    obtain rfl:=Option.some.inj H
    go_wp2
    go_ret
    exact ⟨by first | rfl | (simp;done) | (simp [*];done),by repeat (first | exact Drawn0.refl _ | apply Drawn0.step)⟩
   rw [if_pos c3] at H
   have c3b0:decide (x8_1 < (l0.length:Int)) = true:=decide_eq_true c3
   clear c3
   by_cases c4:0 ≤ x8_1
   case neg =>
    rw [if_neg c4] at H
    exact absurd H (by simp)
   rw [if_pos c4] at H
   have c4b0:decide (0 ≤ x8_1) = true:=decide_eq_true c4
   clear c4
   by_cases c5:x8_1 < (l0.length:Int)
   case neg =>
    rw [if_neg c5] at H
    exact absurd H (by simp)
   rw [if_pos c5] at H
   have c5b0:decide (x8_1 < (l0.length:Int)) = true:=decide_eq_true c5
   clear c5
   by_cases c6:a1 = (rd l0 x8_1)
   ·rw [if_pos c6] at H
    have c6b0:(a1 == (rd l0 x8_1)) = true:=beq_iff_eq.mpr c6
    have c6b1:(a1 != (rd l0 x8_1)) = false:=bne_eq_false_iff_eq.mpr c6
    clear c6
    obtain rfl:=Option.some.inj H
    have p153:0 ≤ (x8_1:Int):=of_decide_eq_true (by first | (with_reducible assumption) | assumption)
    have q153:x8_1 < (l0.length:Int):=of_decide_eq_true (by first | (with_reducible assumption) | assumption)
    obtain ⟨ad153,e153,hx153_0⟩:=Kd.at_int HR0.out x8_1 p153 q153
    cases e153
    replace p153:=eq_true p153
    replace q153:=eq_true q153
    go_wp2
    go_ret
    exact ⟨by first | rfl | (simp;done) | (simp [*];done),by repeat (first | exact Drawn0.refl _ | apply Drawn0.step)⟩
   rw [if_neg c6] at H
   have c6b0:(a1 == (rd l0 x8_1)) = false:=beq_eq_false_iff_ne.mpr c6
   have c6b1:(a1 != (rd l0 x8_1)) = true:=bne_iff_ne.mpr c6
   have H':=Aside0.mk H
   clear H
   have p153:0 ≤ (x8_1:Int):=of_decide_eq_true (by first | (with_reducible assumption) | assumption)
   have q153:x8_1 < (l0.length:Int):=of_decide_eq_true (by first | (with_reducible assumption) | assumption)
   obtain ⟨ad153,e153,hx153_0⟩:=Kd.at_int HR0.out x8_1 p153 q153
   cases e153
   replace p153:=eq_true p153
   replace q153:=eq_true q153
   go_wp2
   go_roundg k1
   case measure=>have:=HK1.out;omega
   case rel=>exact ⟨(wrap64 (x8_1 + 1)),(by first | rfl | (simp;done) | (simp [*];done)),H',⟨by have:=HK1.out;omega⟩,by repeat (first | exact Drawn0.refl _ | apply Drawn0.step)⟩
def slices_Contains_int_int.f (k:Nat) (l0:List Int) (a1:Int):Option (Bool):=(slices_Index_int_int.f k l0 a1).bind fun t154=>(some (decide (t154 ≥ 0)))
theorem slices_Contains_int_int.mono:∀ a0 a1 k,LeO (slices_Contains_int_int.f k a0 a1) (slices_Contains_int_int.f (k + 1) a0 a1):=by
 intro a0 a1 k
 unfold slices_Contains_int_int.f
 repeat' first
   | (with_reducible exact slices_Index_int_int.mono _ _ _)
   | (with_reducible exact LeO.refl _)
   | (with_reducible exact LeO.none _)
   | (with_reducible refine LeO.ite ?_ ?_)
   | (with_reducible refine LeO.bind ?_ (fun _=>?_))
   | exact slices_Index_int_int.mono _ _ _
   | exact LeO.none _
   | refine LeO.ite ?_ ?_
   | refine LeO.bind ?_ (fun _=>?_)
theorem slices_Contains_int_int.calls (k:Nat) (A0:Option Addr) (c0:Nat) (l0:List Int) (a1:Int) (r:Bool) (w:World) (hr0:Kd.C (Kd.int .i64) w A0 l0.length l0) (hc0:l0.length ≤ c0) (h:slices_Contains_int_int.f k l0 a1 = some r) :
  Calls Try.prog 124 #[.slice A0 l0.length c0,.int .i64 a1] w fun e w'=>e = .returned (.bool r) ∧ Drawn0 w w':=by
 have HR0:=Aside0.mk hr0
 have HC0:=Aside0.mk hc0
 clear hr0 hc0
 have H:((slices_Index_int_int.f k l0 a1).bind fun t154=>(some (decide (t154 ≥ 0)))) = some r:=h
 clear h
 replace H:=Option.bind_eq_some_iff.mp H
 obtain ⟨t154,A30,H⟩:=H
 replace H:(some (decide (t154 ≥ 0))) = some r:=H
 have A3:=Aside0.mk A30
 clear A30
 obtain rfl:=Option.some.inj H
 go_enter Try.func124,Try.ntmps124
 go_wp2_with (first | ((with_reducible refine gate_callee (f:=131) rfl ?_);refine goesL_ (some 7) rfl rfl Try.func131 (by kernel_rfl) rfl #[.slice A0 l0.length c0,.int .i64 a1] rfl (by (try simp only [List.map_toArray,List.map_cons,List.map_nil]);first | done | rfl | (simp only [List.length_drop,List.length_take];rfl)) ?_;(with_reducible refine (slices_Index_int_int.calls k _ _ l0 a1 t154 _ ?side1 ?side2 A3.out).mono ?_);(case side1=>repeat (first | exact HR0.out | (with_reducible refine Kd.C_alloc ?_ _) | (with_reducible refine Kd.C_drewN ?_ _) | (with_reducible refine Kd.C_drew ?_)));(case side2=>exact HC0.out);rintro e w' ⟨rfl,⟨nd,rfl⟩⟩;refine ⟨_,rfl,?_⟩))
 go_ret
 exact ⟨by first | rfl | (simp;done) | (simp [*];done),by repeat (first | exact Drawn0.refl _ | apply Drawn0.step)⟩
def shares_net_has.f (k:Nat) (l0_0:List Int) (l0_1:List (S45)) (a1:Int) (a2:Int):Option (Bool):=if 0 ≤ a1 then (if a1 < (l0_1.length:Int) then ((slices_Contains_int_int.f k ((rd_T45 l0_1 a1).f1) a2).bind fun t157=>(some t157)) else (none)) else (none)
theorem shares_net_has.mono:∀ a0 a1 a2 a3 k,LeO (shares_net_has.f k a0 a1 a2 a3) (shares_net_has.f (k + 1) a0 a1 a2 a3):=by
 intro a0 a1 a2 a3 k
 unfold shares_net_has.f
 repeat' first
   | (with_reducible exact slices_Contains_int_int.mono _ _ _)
   | (with_reducible exact LeO.refl _)
   | (with_reducible exact LeO.none _)
   | (with_reducible refine LeO.ite ?_ ?_)
   | (with_reducible refine LeO.bind ?_ (fun _=>?_))
   | exact slices_Contains_int_int.mono _ _ _
   | exact LeO.none _
   | refine LeO.ite ?_ ?_
   | refine LeO.bind ?_ (fun _=>?_)
theorem shares_net_has.calls (k:Nat) (A0_0:Option Addr) (c0_0:Nat) (l0_0:List Int) (A0_1:Option Addr) (c0_1:Nat) (l0_1:List (S45)) (a1:Int) (a2:Int) (r:Bool) (w:World) (hr0_0:Kd.C (Kd.int .i64) w A0_0 l0_0.length l0_0) (hc0_0:l0_0.length ≤ c0_0) (hr0_1:Kd.C k45 w A0_1 l0_1.length l0_1) (hc0_1:l0_1.length ≤ c0_1) (h:shares_net_has.f k l0_0 l0_1 a1 a2 = some r) :
  Calls Try.prog 104 #[.agg #[.slice A0_0 l0_0.length c0_0,.slice A0_1 l0_1.length c0_1],.int .i64 a1,.int .i64 a2] w fun e w'=>e = .returned (.bool r) ∧ Below w.heap.size w w':=by
 have hu109:=Try.underlying109
 have HR0_0:=Aside0.mk hr0_0
 have HC0_0:=Aside0.mk hc0_0
 clear hr0_0 hc0_0
 have HR0_1:=Aside0.mk hr0_1
 have HC0_1:=Aside0.mk hc0_1
 clear hr0_1 hc0_1
 have HB:=Aside0.mk (Below.refl w.heap.size w)
 have H:(if 0 ≤ a1 then (if a1 < (l0_1.length:Int) then ((slices_Contains_int_int.f k ((rd_T45 l0_1 a1).f1) a2).bind fun t157=>(some t157)) else (none)) else (none)) = some r:=h
 clear h
 by_cases c4:0 ≤ a1
 case neg =>
  rw [if_neg c4] at H
  exact absurd H (by simp)
 rw [if_pos c4] at H
 have c4b0:decide (0 ≤ a1) = true:=decide_eq_true c4
 clear c4
 by_cases c5:a1 < (l0_1.length:Int)
 case neg =>
  rw [if_neg c5] at H
  exact absurd H (by simp)
 rw [if_pos c5] at H
 have c5b0:decide (a1 < (l0_1.length:Int)) = true:=decide_eq_true c5
 clear c5
 replace H:=Option.bind_eq_some_iff.mp H
 obtain ⟨t157,A60,H⟩:=H
 replace H:(some t157) = some r:=H
 have A6:=Aside0.mk A60
 clear A60
 obtain rfl:=Option.some.inj H
 go_enter Try.func104,Try.ntmps104
 go_wp2_with (first | ((with_reducible refine gate_dst (N:=3) rfl ?_);refine box_event ?hg (N:=3) ?hd (cs:=#[.slice A0_0 l0_0.length c0_0,.slice A0_1 l0_1.length c0_1]) (t:=109) ?hr ?_;(case hd=>rfl);(case hg=>rfl);(case hr=>first | (go_simp;done) | (go_simp;rfl));intro gb155 hg w7 hbox hb;have n0_:=Aside0.mk (below_step (by repeat (first | (with_reducible first | exact HB.out | apply below_alloc | apply pw_below_drewN | apply below_drew1) | exact HB.out)) hb);have n1_:=Aside0.mk (hbox);have n2_:=Aside0.mk ((by rw [hg];exact (below_size (by repeat (first | (with_reducible first | exact HB.out | apply below_alloc | apply pw_below_drewN | apply below_drew1) | exact HB.out))):w.heap.size ≤ gb155));have n3_:=Aside0.mk ((by rw [hg];exact (below_size (by repeat (first | (with_reducible first | exact HB.out | apply below_alloc | apply pw_below_drewN | apply below_drew1) | exact HB.out))):w.heap.size ≤ gb155));clear HB;have HB:=n0_;have BK155:=n1_;have GW155:=n2_;have GE155:=n3_;clear n0_ n1_ n2_ n3_;clear hb hbox hg;have hcz8_0:w7.cell? ⟨gb155,0,none⟩ = some (.slice A0_0 l0_0.length c0_0):=(blk_cell BK155.out 0).trans rfl;have hcz8_1:w7.cell? ⟨gb155,1,none⟩ = some (.slice A0_1 l0_1.length c0_1):=(blk_cell BK155.out 1).trans rfl;have hfz8_0:=blk_frozen BK155.out 0;have hfz8_1:=blk_frozen BK155.out 1;have p156:0 ≤ (a1:Int):=of_decide_eq_true (by first | (with_reducible assumption) | assumption);have q156:a1 < (l0_1.length:Int):=of_decide_eq_true (by first | (with_reducible assumption) | assumption);obtain ⟨ad156,A156_1,c156_1,e156,hx156_0,hx156_1,hl156_1,hi156_1⟩:=at_T45 HR0_1.out a1 p156 q156;cases e156;replace hx156_0:=(HB.out.cell (World.block_lt_of_cell? w _ hx156_0)).trans hx156_0;replace hx156_1:=(HB.out.cell (World.block_lt_of_cell? w _ hx156_1)).trans hx156_1;have HR156_1:=Aside0.mk hi156_1;have HC156_1:=Aside0.mk hl156_1;clear hi156_1 hl156_1;replace p156:=eq_true p156;replace q156:=eq_true q156) | ((with_reducible refine gate_callee (f:=124) rfl ?_);refine goesL_ (some 14) rfl rfl Try.func124 (by kernel_rfl) rfl #[.slice A156_1 ((rd_T45 l0_1 a1).f1).length c156_1,.int .i64 a2] rfl (by (try simp only [List.map_toArray,List.map_cons,List.map_nil]);first | done | rfl | (simp only [List.length_drop,List.length_take];rfl)) ?_;(with_reducible refine (slices_Contains_int_int.calls k _ _ ((rd_T45 l0_1 a1).f1) a2 t157 _ ?side1 ?side2 A6.out).mono ?_);(case side1=>repeat (first | exact (Kd.C_below HR156_1.out HB.out) | (with_reducible refine Kd.C_alloc ?_ _) | (with_reducible refine Kd.C_drewN ?_ _) | (with_reducible refine Kd.C_drew ?_)));(case side2=>exact HC156_1.out);rintro e w' ⟨rfl,⟨nd,rfl⟩⟩;refine ⟨_,rfl,?_⟩))
 go_ret
 exact ⟨by first | rfl | (simp [errW_none,errW_some] <;> rfl) | (simp [*,errW_none,errW_some] <;> rfl),by repeat (first | (with_reducible first | exact HB.out | apply below_alloc | apply pw_below_drewN | apply below_drew1 | refine below_set ?_ GE155.out) | exact HB.out)⟩
end Go.Proofs.Ytjohcjfmlhihbaa.G
namespace Go.Proofs.Ytjohcjfmlhihbaa.G
open Go.RowKit Go.Proofs.YtjohcjfmlhihbaaW.PrintWords Go.Proofs.YtjohcjfmlhihbaaW.PrintLast Go.Proofs.YtjohcjfmlhihbaaW.PrintMore
set_option maxHeartbeats 8000000
set_option maxRecDepth 100000
attribute [local go_sem] cond_true cond_false fld23_0 fld23_1 fld45_0 fld45_1 fld109_0 fld109_1 fld94_0 fld94_1 max2_int min2_int max_two min_two max_three min_three max_four min_four
def shares_net_fair_1.l0:Nat → Int → Int → Int → Int → List Int → List (S45) → List Bool → List (S23) → Int → Int → Option (Int × Int × Bool)
 | 0,_,_,_,_,_,_,_,_,_,_=>none
 | k + 1,x0,x8,x18,x19,x159000,x159001,x160000,x161000,x166000,x166001=>if x19 < x18 then ((shares_net_has.f k x159000 x159001 x19 x0).bind fun t168=>(if t168 = true then (if 0 ≤ x19 then (if x19 < (x160000.length:Int) then (if rdOf false x160000 x19 = true then (if x19 < (x161000.length:Int) then ((shares_minus.f k x166000 x166001 ((rd_T23 x161000 x19).f0) ((rd_T23 x161000 x19).f1)).bind fun bt171=>(shares_net_fair_1.l0 k x0 x8 x18 (wrap64 (x19 + 1)) x159000 x159001 x160000 x161000 bt171.1 bt171.2)) else (none)) else (if x19 < (x159001.length:Int) then (shares_net_fair_1.l0 k x0 (wrap64 (x8 + ((rd_T45 x159001 x19).f0))) x18 (wrap64 (x19 + 1)) x159000 x159001 x160000 x161000 x166000 x166001) else (none))) else (none)) else (none)) else (shares_net_fair_1.l0 k x0 x8 x18 (wrap64 (x19 + 1)) x159000 x159001 x160000 x161000 x166000 x166001))) else (if x8 = 0 then (some (0,0,false)) else ((shares_over.f k x166000 x166001 x8).bind fun bt166=>(some (bt166.1,bt166.2,true))))
def shares_net_fair_1.f (k:Nat) (a0:Int) (l1_0:List Int) (l1_1:List (S45)) (l2:List Bool) (l3:List (S23)):Option (Int × Int × Bool):=if 0 ≤ a0 then (if a0 < (l1_0.length:Int) then ((shares_whole.f (rd l1_0 a0)).bind fun bt163=>(shares_net_fair_1.l0 k a0 0 (l1_1.length:Int) 0 l1_0 l1_1 l2 l3 bt163.1 bt163.2)) else (none)) else (none)
theorem shares_net_fair_1.mono_l:∀ k,(∀ y0 y1 y2 y3 y4 y5 y6 y7 y8 y9,LeO (shares_net_fair_1.l0 k y0 y1 y2 y3 y4 y5 y6 y7 y8 y9) (shares_net_fair_1.l0 (k + 1) y0 y1 y2 y3 y4 y5 y6 y7 y8 y9))
 | 0=>fun _ _ _ _ _ _ _ _ _ _ r h=>by simp [shares_net_fair_1.l0] at h
 | k + 1=>by
  have ih0:=shares_net_fair_1.mono_l k
  intro y0 y1 y2 y3 y4 y5 y6 y7 y8 y9
  unfold shares_net_fair_1.l0
  repeat' first
  | (with_reducible first | exact ih0 _ _ _ _ _ _ _ _ _ _ | exact shares_minus.mono _ _ _ _ _ | exact shares_net_has.mono _ _ _ _ _ | exact shares_over.mono _ _ _ _ | exact LeO.refl _ | exact LeO.none _ | refine LeO.ite ?_ ?_ | refine LeO.bind ?_ (fun _=>?_))
  | exact LeO.none _ | refine LeO.ite ?_ ?_ | refine LeO.bind ?_ (fun _=>?_)
theorem shares_net_fair_1.mono:∀ a0 a1 a2 a3 a4 k,LeO (shares_net_fair_1.f k a0 a1 a2 a3 a4) (shares_net_fair_1.f (k + 1) a0 a1 a2 a3 a4):=by
 intro a0 a1 a2 a3 a4 k
 have ih0:=shares_net_fair_1.mono_l k
 unfold shares_net_fair_1.f
 repeat' first
   | (with_reducible first | exact ih0 _ _ _ _ _ _ _ _ _ _ | exact shares_minus.mono _ _ _ _ _ | exact shares_net_has.mono _ _ _ _ _ | exact shares_over.mono _ _ _ _ | exact LeO.refl _ | exact LeO.none _ | refine LeO.ite ?_ ?_ | refine LeO.bind ?_ (fun _=>?_))
   | exact LeO.none _ | refine LeO.ite ?_ ?_ | refine LeO.bind ?_ (fun _=>?_)
theorem shares_net_fair_1.calls (k:Nat) (a0:Int) (A1_0:Option Addr) (c1_0:Nat) (l1_0:List Int) (A1_1:Option Addr) (c1_1:Nat) (l1_1:List (S45)) (A2:Option Addr) (c2:Nat) (l2:List Bool) (A3:Option Addr) (c3:Nat) (l3:List (S23)) (r1:Int) (r2:Int) (r3:Bool) (w:World) (gb158 gb159 gb160:Nat) (BK0:w.heap[gb158]? = some (.cells #[.slice A1_0 l1_0.length c1_0,.slice A1_1 l1_1.length c1_1] 109 (0,0))) (BK1:w.heap[gb159]? = some (.cells #[.slice A2 l2.length c2] 115 (0,0))) (BK2:w.heap[gb160]? = some (.cells #[.slice A3 l3.length c3] 35 (0,0))) (nb0:gb158 ≠ gb159) (nb1:gb158 ≠ gb160) (nb2:gb159 ≠ gb160) (hr1_0:Kd.C (Kd.int .i64) w A1_0 l1_0.length l1_0) (hc1_0:l1_0.length ≤ c1_0) (hr1_1:Kd.C k45 w A1_1 l1_1.length l1_1) (hc1_1:l1_1.length ≤ c1_1) (hr2:Kd.C Kd.bool w A2 l2.length l2) (hc2:l2.length ≤ c2) (hr3:Kd.C k23 w A3 l3.length l3) (hc3:l3.length ≤ c3) (h:shares_net_fair_1.f k a0 l1_0 l1_1 l2 l3 = some (r1,r2,r3)) :
  Calls Try.prog 103 #[.int .i64 a0,.pointer (some ⟨gb158,0,none⟩),.pointer (some ⟨gb159,0,none⟩),.pointer (some ⟨gb160,0,none⟩)] w fun e w'=>e = .returned (.tuple #[.agg #[.int .i64 r1,.int .i64 r2],.bool r3]) ∧ Below w.heap.size w w':=by
 have hu109:=Try.underlying109
 have hu23:=Try.underlying23
 have BK158:=A_ BK0
 have BK159:=A_ BK1
 have BK160:=A_ BK2
 have NB158_159:=A_ nb0
 have NB159_158:=A_ nb0.symm
 have NB158_160:=A_ nb1
 have NB160_158:=A_ nb1.symm
 have NB159_160:=A_ nb2
 have NB160_159:=A_ nb2.symm
 clear BK0 BK1 BK2 nb0 nb1 nb2
 have HR1_0:=A_ hr1_0
 have HC1_0:=A_ hc1_0
 clear hr1_0 hc1_0
 have HR1_1:=A_ hr1_1
 have HC1_1:=A_ hc1_1
 clear hr1_1 hc1_1
 have HR2:=A_ hr2
 have HC2:=A_ hc2
 clear hr2 hc2
 have HR3:=A_ hr3
 have HC3:=A_ hc3
 clear hr3 hc3
 have HB:=A_ (Below.refl w.heap.size w)
 have H:(if 0 ≤ a0 then (if a0 < (l1_0.length:Int) then ((shares_whole.f (rd l1_0 a0)).bind fun bt163=>(shares_net_fair_1.l0 k a0 0 (l1_1.length:Int) 0 l1_0 l1_1 l2 l3 bt163.1 bt163.2)) else (none)) else (none)) = some (r1,r2,r3):=h
 clear h
 by_cases c5:0 ≤ a0
 case neg =>
  rw [if_neg c5] at H
  exact absurd H (by simp)
 rw [if_pos c5] at H
 have c5b0:=decide_eq_true c5
 clear c5
 replace H:=gd H
 obtain ⟨c6,H⟩:=H
 have c6b0:=decide_eq_true c6
 clear c6
 replace H:=Option.bind_eq_some_iff.mp H
 obtain ⟨⟨t163,t164⟩,A70,H⟩:=H
 dsimp only at H
 have A7:=A_ A70
 clear A70
 have H':=A_ H
 clear H
 go_enter Try.func103,Try.ntmps103
 go_wp2_with (first | ((with_reducible refine gate_dst (N:=5) rfl ?_);refine bx 5 #[.int .i64 0,.int .i64 0] 23 ?_;intro gb161 hg w11 hbox hb;have BK161:=A_ hbox;have GW161:=gw hg HB;have GE161:=GW161;have NB158_161:=nl hg BK158;have NB161_158:=ng hg BK158;have NB159_161:=nl hg BK159;have NB161_159:=ng hg BK159;have NB160_161:=nl hg BK160;have NB161_160:=ng hg BK160;replace BK158:=kB BK158 hb;replace BK159:=kB BK159 hb;replace BK160:=kB BK160 hb;replace HB:=bB HB hb;clear hb hbox hg;have hnb12:=NB158_159.out;have hnc12:=NB159_158.out;have hnb13:=NB158_160.out;have hnc13:=NB160_158.out;have hnb14:=NB158_161.out;have hnc14:=NB161_158.out;have hcz15_0:w11.cell? ⟨gb158,0,none⟩ = some (.slice A1_0 l1_0.length c1_0):=cz BK158 0;have hcz15_1:w11.cell? ⟨gb158,1,none⟩ = some (.slice A1_1 l1_1.length c1_1):=cz BK158 1;have hfz15_0:=blk_frozen BK158.out 0;have hfz15_1:=blk_frozen BK158.out 1;have p162:0 ≤ (a0:Int):=of_decide_eq_true (by assumption);have q162:a0 < (l1_0.length:Int):=of_decide_eq_true (by assumption);obtain ⟨ad162,e162,hx162_0⟩:=Kd.at_int HR1_0.out a0 p162 q162;cases e162;replace hx162_0:=(HB.out.cell (World.block_lt_of_cell? w _ hx162_0)).trans hx162_0;replace p162:=eq_true p162;replace q162:=eq_true q162) | ((with_reducible refine gate_callee (f:=64) rfl ?_);refine gL (some 15) Try.func64 #[.int .i64 (rd l1_0 a0)] ?_;(with_reducible refine (shares_whole.calls (rd l1_0 a0) t163 t164 _ A7.out).mono ?_);rintro e w16 ⟨rfl,hb⟩;refine ⟨_,rfl,?_⟩;replace BK158:=kB BK158 hb;replace BK159:=kB BK159 hb;replace BK160:=kB BK160 hb;replace BK161:=kB BK161 hb;replace HB:=bB HB hb;(try clear hb)) | ((with_reducible refine gate_dst (N:=7) rfl ?_);refine bx 7 #[.int .i64 0,.int .i64 0] 23 ?_;intro gb165 hg w17 hbox hb;have BK165:=A_ hbox;have GW165:=gw hg HB;have GE165:=GW165;have NB158_165:=nl hg BK158;have NB165_158:=ng hg BK158;have NB159_165:=nl hg BK159;have NB165_159:=ng hg BK159;have NB160_165:=nl hg BK160;have NB165_160:=ng hg BK160;have NB161_165:=nl hg BK161;have NB165_161:=ng hg BK161;replace BK158:=kB BK158 hb;replace BK159:=kB BK159 hb;replace BK160:=kB BK160 hb;replace BK161:=kB BK161 hb;replace HB:=bB HB hb;clear hb hbox hg;have hnb18:=NB165_158.out;have hnc18:=NB158_165.out;have hnb19:=NB165_159.out;have hnc19:=NB159_165.out;have hnb20:=NB165_160.out;have hnc20:=NB160_165.out;have hnb21:=NB165_161.out;have hnc21:=NB161_165.out;have hcz22_0:w17.cell? ⟨gb165,0,none⟩ = some (.int .i64 0):=cz BK165 0;have hcz22_1:w17.cell? ⟨gb165,1,none⟩ = some (.int .i64 0):=cz BK165 1;have hfz22_0:=blk_frozen BK165.out 0;have hfz22_1:=blk_frozen BK165.out 1;have hcz23_0:w17.cell? ⟨gb158,0,none⟩ = some (.slice (some ad162) l1_0.length c1_0):=cz BK158 0;have hcz23_1:w17.cell? ⟨gb158,1,none⟩ = some (.slice A1_1 l1_1.length c1_1):=cz BK158 1;have hfz23_0:=blk_frozen BK158.out 0;have hfz23_1:=blk_frozen BK158.out 1))
 go_loopg [8,19] k (fun kq v8 v19 w'=>∃ (x8_1:Int) (x19_1:Int) (x166000_1:Int) (x166001_1:Int),v8 = .int .i64 x8_1 ∧ v19 = .int .i64 x19_1 ∧ Aside0 (shares_net_fair_1.l0 kq a0 x8_1 (l1_1.length:Int) x19_1 l1_0 l1_1 l2 l3 x166000_1 x166001_1 = some (r1,r2,r3)) ∧ Aside0 (kq ≤ k) ∧ Aside0 (w'.heap[gb158]? = some (.cells #[(.slice (some ad162) l1_0.length c1_0),(.slice A1_1 l1_1.length c1_1)] 109 (0,0))) ∧ Aside0 (w'.heap[gb159]? = some (.cells #[(.slice A2 l2.length c2)] 115 (0,0))) ∧ Aside0 (w'.heap[gb160]? = some (.cells #[(.slice A3 l3.length c3)] 35 (0,0))) ∧ Aside0 (w'.heap[gb161]? = some (.cells #[.int .i64 0,.int .i64 0] 23 (0,0))) ∧ Aside0 (w'.heap[gb165]? = some (.cells #[.int .i64 x166000_1,.int .i64 x166001_1] 23 (0,0))) ∧ Aside0 (Below w.heap.size w w'))
 case atStart=>exact ⟨(0),(0),(t163),(t164),rfl,rfl,H',⟨Nat.le_refl _⟩,⟨by refine blk_far ?_ NB158_165.out _;refine blk_far ?_ NB158_165.out _;exact BK158.out⟩,⟨by refine blk_far ?_ NB159_165.out _;refine blk_far ?_ NB159_165.out _;exact BK159.out⟩,⟨by refine blk_far ?_ NB160_165.out _;refine blk_far ?_ NB160_165.out _;exact BK160.out⟩,⟨by refine blk_far ?_ NB161_165.out _;refine blk_far ?_ NB161_165.out _;exact BK161.out⟩,⟨by refine blk_put (cs:=#[.int .i64 t163,.int .i64 0]) ?_ 1 _ rfl;refine blk_put (cs:=#[.int .i64 0,.int .i64 0]) ?_ 0 _ rfl;exact BK165.out⟩,⟨bl HB⟩⟩
 case round =>
  clear H'
  obtain ⟨x8_1,x19_1,x166000_1,x166001_1,rfl,rfl,HA,HK1,BK158,BK159,BK160,BK161,BK165,HB⟩:=hrel
  cases gk with
  | zero=>exact absurd HA.out (by simp [shares_net_fair_1.l0])
  | succ k1 =>
   have H:=HA.out
   clear HA
   simp only [shares_net_fair_1.l0] at H
   by_cases c24:x19_1 < (l1_1.length:Int)
   case neg =>
    rw [if_neg c24] at H
    have c24b0:=decide_eq_false c24
    clear c24
    by_cases c71:x8_1 = 0
    ·rw [if_pos c71] at H
     have c71b0:(x8_1 == 0) = true:=beq_iff_eq.mpr c71
     have c71b1:(x8_1 != 0) = false:=bne_eq_false_iff_eq.mpr c71
     clear c71
     simp only [Option.some.injEq,Prod.mk.injEq] at H
     obtain ⟨rfl,rfl,rfl⟩:=H
     have hnb72:=NB161_158.out
     have hnc72:=NB158_161.out
     have hnb73:=NB161_159.out
     have hnc73:=NB159_161.out
     have hnb74:=NB161_160.out
     have hnc74:=NB160_161.out
     have hnb75:=NB161_165.out
     have hnc75:=NB165_161.out
     have hcz76_0:wr.cell? ⟨gb161,0,none⟩ = some (.int .i64 0):=cz BK161 0
     have hcz76_1:wr.cell? ⟨gb161,1,none⟩ = some (.int .i64 0):=cz BK161 1
     have hfz76_0:=blk_frozen BK161.out 0
     have hfz76_1:=blk_frozen BK161.out 1
     go_wp2
     refine bodyPost_ret (results_ct rfl _ _ gb161 23 #[.int .i64 0,.int .i64 0] (0,0) _ rfl (by refine blk_put (cs:=#[.int .i64 0,.int .i64 0]) ?_ 1 _ rfl;refine blk_put (cs:=#[.int .i64 0,.int .i64 0]) ?_ 0 _ rfl;exact BK161.out) Try.underlying23 rfl (by kernel_rfl)) rfl ?_
     exact ⟨rfl,bl HB⟩
    rw [if_neg c71] at H
    have c71b0:(x8_1 == 0) = false:=beq_eq_false_iff_ne.mpr c71
    have c71b1:(x8_1 != 0) = true:=bne_iff_ne.mpr c71
    replace H:=Option.bind_eq_some_iff.mp H
    obtain ⟨⟨t166,t167⟩,A770,H⟩:=H
    dsimp only at H
    have A77:=A_ A770
    clear A770
    simp only [Option.some.injEq,Prod.mk.injEq] at H
    obtain ⟨rfl,rfl,rfl⟩:=H
    have hnb78:=NB165_158.out
    have hnc78:=NB158_165.out
    have hnb79:=NB165_159.out
    have hnc79:=NB159_165.out
    have hnb80:=NB165_160.out
    have hnc80:=NB160_165.out
    have hnb81:=NB165_161.out
    have hnc81:=NB161_165.out
    have hcz82_0:wr.cell? ⟨gb165,0,none⟩ = some (.int .i64 x166000_1):=cz BK165 0
    have hcz82_1:wr.cell? ⟨gb165,1,none⟩ = some (.int .i64 x166001_1):=cz BK165 1
    have hfz82_0:=blk_frozen BK165.out 0
    have hfz82_1:=blk_frozen BK165.out 1
    go_wp2_with (first | ((with_reducible refine gate_callee (f:=96) rfl ?_);refine gL (some 53) Try.func96 #[.agg #[.int .i64 x166000_1,.int .i64 x166001_1],.int .i64 x8_1] ?_;(with_reducible refine (shares_over.calls k1 x166000_1 x166001_1 x8_1 t166 t167 _ A77.out).mono ?_);rintro e w83 ⟨rfl,hb⟩;refine ⟨_,rfl,?_⟩;replace BK158:=kB BK158 hb;replace BK159:=kB BK159 hb;replace BK160:=kB BK160 hb;replace BK161:=kB BK161 hb;replace BK165:=kB BK165 hb;replace HB:=bB HB hb;(try clear hb);have hnb84:=NB161_158.out;have hnc84:=NB158_161.out;have hnb85:=NB161_159.out;have hnc85:=NB159_161.out;have hnb86:=NB161_160.out;have hnc86:=NB160_161.out;have hcz87_0:w83.cell? ⟨gb161,0,none⟩ = some (.int .i64 0):=cz BK161 0;have hcz87_1:w83.cell? ⟨gb161,1,none⟩ = some (.int .i64 0):=cz BK161 1;have hfz87_0:=blk_frozen BK161.out 0;have hfz87_1:=blk_frozen BK161.out 1))
    refine bodyPost_ret (results_ct rfl _ _ gb161 23 #[.int .i64 t166,.int .i64 t167] (0,0) _ rfl (by refine blk_put (cs:=#[.int .i64 t166,.int .i64 0]) ?_ 1 _ rfl;refine blk_put (cs:=#[.int .i64 0,.int .i64 0]) ?_ 0 _ rfl;exact BK161.out) Try.underlying23 rfl (by kernel_rfl)) rfl ?_
    exact ⟨rfl,bl HB⟩
   rw [if_pos c24] at H
   have c24b0:=decide_eq_true c24
   clear c24
   replace H:=Option.bind_eq_some_iff.mp H
   obtain ⟨t168,A250,H⟩:=H
   replace H:(if t168 = true then (if 0 ≤ x19_1 then (if x19_1 < (l2.length:Int) then (if rdOf false l2 x19_1 = true then (if x19_1 < (l3.length:Int) then ((shares_minus.f k1 x166000_1 x166001_1 ((rd_T23 l3 x19_1).f0) ((rd_T23 l3 x19_1).f1)).bind fun bt171=>(shares_net_fair_1.l0 k1 a0 x8_1 (l1_1.length:Int) (wrap64 (x19_1 + 1)) l1_0 l1_1 l2 l3 bt171.1 bt171.2)) else (none)) else (if x19_1 < (l1_1.length:Int) then (shares_net_fair_1.l0 k1 a0 (wrap64 (x8_1 + ((rd_T45 l1_1 x19_1).f0))) (l1_1.length:Int) (wrap64 (x19_1 + 1)) l1_0 l1_1 l2 l3 x166000_1 x166001_1) else (none))) else (none)) else (none)) else (shares_net_fair_1.l0 k1 a0 x8_1 (l1_1.length:Int) (wrap64 (x19_1 + 1)) l1_0 l1_1 l2 l3 x166000_1 x166001_1)) = some (r1,r2,r3):=H
   have A25:=A_ A250
   clear A250
   by_cases c26:t168 = true
   case neg =>
    replace c26:=Bool.eq_false_iff.mpr c26
    subst c26
    rw [if_neg (show ¬ (false = true) by decide)] at H
    have H':=A_ H
    clear H
    have hnb65:=NB158_159.out
    have hnc65:=NB159_158.out
    have hnb66:=NB158_160.out
    have hnc66:=NB160_158.out
    have hnb67:=NB158_161.out
    have hnc67:=NB161_158.out
    have hnb68:=NB158_165.out
    have hnc68:=NB165_158.out
    have hcz69_0:wr.cell? ⟨gb158,0,none⟩ = some (.slice (some ad162) l1_0.length c1_0):=cz BK158 0
    have hcz69_1:wr.cell? ⟨gb158,1,none⟩ = some (.slice A1_1 l1_1.length c1_1):=cz BK158 1
    have hfz69_0:=blk_frozen BK158.out 0
    have hfz69_1:=blk_frozen BK158.out 1
    go_wp2_with (first | ((with_reducible refine gate_callee (f:=104) rfl ?_);refine gL (some 34) Try.func104 #[.agg #[.slice (some ad162) l1_0.length c1_0,.slice A1_1 l1_1.length c1_1],.int .i64 x19_1,.int .i64 a0] ?_;(with_reducible refine (shares_net_has.calls k1 _ _ l1_0 _ _ l1_1 x19_1 a0 false _ ?side1 ?side2 ?side3 ?side4 A25.out).mono ?_);(case side1=>exact cB HR1_0 HB);(case side2=>exact HC1_0.out);(case side3=>exact cB HR1_1 HB);(case side4=>exact HC1_1.out);rintro e w70 ⟨rfl,hb⟩;refine ⟨_,rfl,?_⟩;replace BK158:=kB BK158 hb;replace BK159:=kB BK159 hb;replace BK160:=kB BK160 hb;replace BK161:=kB BK161 hb;replace BK165:=kB BK165 hb;replace HB:=bB HB hb;(try clear hb)))
    go_roundg k1
    case measure=>have:=HK1.out;omega
    case rel=>exact ⟨(x8_1),(wrap64 (x19_1 + 1)),(x166000_1),(x166001_1),rfl,rfl,H',⟨by have:=HK1.out;omega⟩,⟨by exact BK158.out⟩,⟨by exact BK159.out⟩,⟨by exact BK160.out⟩,⟨by exact BK161.out⟩,⟨by exact BK165.out⟩,⟨bl HB⟩⟩
   subst c26
   rw [if_pos rfl] at H
   replace H:=gd H
   obtain ⟨c27,H⟩:=H
   have c27b0:=decide_eq_true c27
   clear c27
   replace H:=gd H
   obtain ⟨c28,H⟩:=H
   have c28b0:=decide_eq_true c28
   clear c28
   obtain ⟨bq29,hbq29⟩:∃ b_:Bool,b_ = (rdOf false l2 x19_1):=⟨_,rfl⟩
   replace H:(if bq29 = true then (if x19_1 < (l3.length:Int) then ((shares_minus.f k1 x166000_1 x166001_1 ((rd_T23 l3 x19_1).f0) ((rd_T23 l3 x19_1).f1)).bind fun bt171=>(shares_net_fair_1.l0 k1 a0 x8_1 (l1_1.length:Int) (wrap64 (x19_1 + 1)) l1_0 l1_1 l2 l3 bt171.1 bt171.2)) else (none)) else (if x19_1 < (l1_1.length:Int) then (shares_net_fair_1.l0 k1 a0 (wrap64 (x8_1 + ((rd_T45 l1_1 x19_1).f0))) (l1_1.length:Int) (wrap64 (x19_1 + 1)) l1_0 l1_1 l2 l3 x166000_1 x166001_1) else (none))) = some (r1,r2,r3):=by rw [← hbq29] at H;exact H
   have Nbq29:=A_ hbq29
   clear hbq29
   by_cases c30:bq29 = true
   case neg =>
    replace c30:=Bool.eq_false_iff.mpr c30
    subst c30
    rw [if_neg (show ¬ (false = true) by decide)] at H
    replace H:=gd H
    obtain ⟨c50,H⟩:=H
    have c50b0:=decide_eq_true c50
    clear c50
    have H':=A_ H
    clear H
    have hnb51:=NB158_159.out
    have hnc51:=NB159_158.out
    have hnb52:=NB158_160.out
    have hnc52:=NB160_158.out
    have hnb53:=NB158_161.out
    have hnc53:=NB161_158.out
    have hnb54:=NB158_165.out
    have hnc54:=NB165_158.out
    have hcz55_0:wr.cell? ⟨gb158,0,none⟩ = some (.slice (some ad162) l1_0.length c1_0):=cz BK158 0
    have hcz55_1:wr.cell? ⟨gb158,1,none⟩ = some (.slice A1_1 l1_1.length c1_1):=cz BK158 1
    have hfz55_0:=blk_frozen BK158.out 0
    have hfz55_1:=blk_frozen BK158.out 1
    go_wp2_with (first | ((with_reducible refine gate_callee (f:=104) rfl ?_);refine gL (some 34) Try.func104 #[.agg #[.slice (some ad162) l1_0.length c1_0,.slice A1_1 l1_1.length c1_1],.int .i64 x19_1,.int .i64 a0] ?_;(with_reducible refine (shares_net_has.calls k1 _ _ l1_0 _ _ l1_1 x19_1 a0 true _ ?side1 ?side2 ?side3 ?side4 A25.out).mono ?_);(case side1=>exact cB HR1_0 HB);(case side2=>exact HC1_0.out);(case side3=>exact cB HR1_1 HB);(case side4=>exact HC1_1.out);rintro e w56 ⟨rfl,hb⟩;refine ⟨_,rfl,?_⟩;replace BK158:=kB BK158 hb;replace BK159:=kB BK159 hb;replace BK160:=kB BK160 hb;replace BK161:=kB BK161 hb;replace BK165:=kB BK165 hb;replace HB:=bB HB hb;(try clear hb);have hnb57:=NB159_160.out;have hnc57:=NB160_159.out;have hnb58:=NB159_161.out;have hnc58:=NB161_159.out;have hnb59:=NB159_165.out;have hnc59:=NB165_159.out;have hcz60_0:w56.cell? ⟨gb159,0,none⟩ = some (.slice A2 l2.length c2):=cz BK159 0;have hfz60_0:=blk_frozen BK159.out 0;have p169:0 ≤ (x19_1:Int):=of_decide_eq_true (by assumption);have q169:x19_1 < (l2.length:Int):=of_decide_eq_true (by assumption);obtain ⟨ad169,e169,hx169_0⟩:=Kd.at_bool HR2.out x19_1 p169 q169;(try rw [← Nbq29.out] at hx169_0);cases e169;replace hx169_0:=(HB.out.cell (World.block_lt_of_cell? w _ hx169_0)).trans hx169_0;replace p169:=eq_true p169;replace q169:=eq_true q169;have hnb61:=NB160_161.out;have hnc61:=NB161_160.out;have hnb62:=NB160_165.out;have hnc62:=NB165_160.out;have hcz63_0:w56.cell? ⟨gb160,0,none⟩ = some (.slice A3 l3.length c3):=cz BK160 0;have hfz63_0:=blk_frozen BK160.out 0;have hcz64_0:w56.cell? ⟨gb158,0,none⟩ = some (.slice (some ad162) l1_0.length c1_0):=cz BK158 0;have hcz64_1:w56.cell? ⟨gb158,1,none⟩ = some (.slice A1_1 l1_1.length c1_1):=cz BK158 1;have hfz64_0:=blk_frozen BK158.out 0;have hfz64_1:=blk_frozen BK158.out 1;have p173:0 ≤ (x19_1:Int):=of_decide_eq_true (by assumption);have q173:x19_1 < (l1_1.length:Int):=of_decide_eq_true (by assumption);obtain ⟨ad173,A173_1,c173_1,e173,hx173_0,hx173_1,hl173_1,hi173_1⟩:=at_T45 HR1_1.out x19_1 p173 q173;cases e173;replace hx173_0:=(HB.out.cell (World.block_lt_of_cell? w _ hx173_0)).trans hx173_0;replace hx173_1:=(HB.out.cell (World.block_lt_of_cell? w _ hx173_1)).trans hx173_1;have HR173_1:=A_ hi173_1;have HC173_1:=A_ hl173_1;clear hi173_1 hl173_1;replace p173:=eq_true p173;replace q173:=eq_true q173))
    go_roundg k1
    case measure=>have:=HK1.out;omega
    case rel=>exact ⟨(wrap64 (x8_1 + ((rd_T45 l1_1 x19_1).f0))),(wrap64 (x19_1 + 1)),(x166000_1),(x166001_1),rfl,rfl,H',⟨by have:=HK1.out;omega⟩,⟨by exact BK158.out⟩,⟨by exact BK159.out⟩,⟨by exact BK160.out⟩,⟨by exact BK161.out⟩,⟨by exact BK165.out⟩,⟨bl HB⟩⟩
   subst c30
   rw [if_pos rfl] at H
   replace H:=gd H
   obtain ⟨c31,H⟩:=H
   have c31b0:=decide_eq_true c31
   clear c31
   replace H:=Option.bind_eq_some_iff.mp H
   obtain ⟨⟨t171,t172⟩,A320,H⟩:=H
   dsimp only at H
   have A32:=A_ A320
   clear A320
   have H':=A_ H
   clear H
   have hnb33:=NB158_159.out
   have hnc33:=NB159_158.out
   have hnb34:=NB158_160.out
   have hnc34:=NB160_158.out
   have hnb35:=NB158_161.out
   have hnc35:=NB161_158.out
   have hnb36:=NB158_165.out
   have hnc36:=NB165_158.out
   have hcz37_0:wr.cell? ⟨gb158,0,none⟩ = some (.slice (some ad162) l1_0.length c1_0):=cz BK158 0
   have hcz37_1:wr.cell? ⟨gb158,1,none⟩ = some (.slice A1_1 l1_1.length c1_1):=cz BK158 1
   have hfz37_0:=blk_frozen BK158.out 0
   have hfz37_1:=blk_frozen BK158.out 1
   try go_wp2_with (first | ((with_reducible refine gate_callee (f:=104) rfl ?_);refine gL (some 34) Try.func104 #[.agg #[.slice (some ad162) l1_0.length c1_0,.slice A1_1 l1_1.length c1_1],.int .i64 x19_1,.int .i64 a0] ?_;(with_reducible refine (shares_net_has.calls k1 _ _ l1_0 _ _ l1_1 x19_1 a0 true _ ?side1 ?side2 ?side3 ?side4 A25.out).mono ?_);(case side1=>exact cB HR1_0 HB);(case side2=>exact HC1_0.out);(case side3=>exact cB HR1_1 HB);(case side4=>exact HC1_1.out);rintro e w38 ⟨rfl,hb⟩;refine ⟨_,rfl,?_⟩;replace BK158:=kB BK158 hb;replace BK159:=kB BK159 hb;replace BK160:=kB BK160 hb;replace BK161:=kB BK161 hb;replace BK165:=kB BK165 hb;replace HB:=bB HB hb;(try clear hb);have hnb39:=NB159_160.out;have hnc39:=NB160_159.out;have hnb40:=NB159_161.out;have hnc40:=NB161_159.out;have hnb41:=NB159_165.out;have hnc41:=NB165_159.out;have hcz42_0:w38.cell? ⟨gb159,0,none⟩ = some (.slice A2 l2.length c2):=cz BK159 0;have hfz42_0:=blk_frozen BK159.out 0;have p169:0 ≤ (x19_1:Int):=of_decide_eq_true (by assumption);have q169:x19_1 < (l2.length:Int):=of_decide_eq_true (by assumption);obtain ⟨ad169,e169,hx169_0⟩:=Kd.at_bool HR2.out x19_1 p169 q169;(try rw [← Nbq29.out] at hx169_0);cases e169;replace hx169_0:=(HB.out.cell (World.block_lt_of_cell? w _ hx169_0)).trans hx169_0;replace p169:=eq_true p169;replace q169:=eq_true q169;have hnb43:=NB160_161.out;have hnc43:=NB161_160.out;have hnb44:=NB160_165.out;have hnc44:=NB165_160.out;have hcz45_0:w38.cell? ⟨gb160,0,none⟩ = some (.slice A3 l3.length c3):=cz BK160 0;have hfz45_0:=blk_frozen BK160.out 0))
   replace BK158:=kD BK158
   replace BK159:=kD BK159
   replace BK160:=kD BK160
   replace BK161:=kD BK161
   replace BK165:=kD BK165
   replace HB:=bD HB
   have p170:0 ≤ (x19_1:Int):=of_decide_eq_true (by assumption)
   have q170:x19_1 < (l3.length:Int):=of_decide_eq_true (by assumption)
   obtain ⟨ad170,e170,hx170_0,hx170_1⟩:=at_T23 HR3.out x19_1 p170 q170
   have hw170_1:=hx170_1
   have hw170_0:=hx170_0
   cases e170
   replace hx170_0:=(HB.out.cell (World.block_lt_of_cell? w _ hx170_0)).trans hx170_0
   replace hx170_1:=(HB.out.cell (World.block_lt_of_cell? w _ hx170_1)).trans hx170_1
   replace p170:=eq_true p170
   replace q170:=eq_true q170
   refine start_ (n:=7) (S:=fun w'=>w'.cell? ⟨gb165,0,none⟩ = some (.int .i64 x166000_1) ∧ w'.cell? ⟨gb165,1,none⟩ = some (.int .i64 x166001_1) ∧ w'.cell? ⟨gb160,0,none⟩ = some (.slice (some ad170) l3.length c3) ∧ w'.cell? (ad170.add ((x19_1).toNat * 2)) = some (.int .i64 ((rd_T23 l3 x19_1).f0)) ∧ w'.cell? ⟨(ad170.add ((x19_1).toNat * 2)).block,(ad170.add ((x19_1).toNat * 2)).off + 1,none⟩ = some (.int .i64 ((rd_T23 l3 x19_1).f1))) (ds:=[6]) (ba 7 0) (by kernel_rfl) rfl rfl ⟨cz BK165 0,cz BK165 1,cz BK160 0,((HB.out.cell (World.block_lt_of_cell? w _ hw170_0)).trans hw170_0),((HB.out.cell (World.block_lt_of_cell? w _ hw170_1)).trans hw170_1)⟩ (fun hHeld=>?_)
   generalize w38.drew = w46 at BK158 BK159 BK160 BK161 BK165 HB hx170_0 hx170_1 hHeld ⊢
   refine pr 2 43 4 ?_
   refine tr 0 41 5 hHeld ?_
   refine tr 1 42 7 hHeld ?_
   refine pr 3 44 15 ?_
   refine tr 4 45 31 hHeld ?_
   refine os 5 46 63 (fun K hK=>?_)
   refine gq Try.func95 #[.agg #[.int .i64 x166000_1,.int .i64 x166001_1],.agg #[.int .i64 ((rd_T23 l3 x19_1).f0),.int .i64 ((rd_T23 l3 x19_1).f1)]] ?_
   with_reducible refine (shares_minus.calls k1 x166000_1 x166001_1 ((rd_T23 l3 x19_1).f0) ((rd_T23 l3 x19_1).f1) t171 t172 _ A32.out).mono ?_
   rintro e w47 ⟨rfl,hb⟩
   refine ⟨_,rfl,?_⟩
   replace BK158:=kB BK158 hb
   replace BK159:=kB BK159 hb
   replace BK160:=kB BK160 hb
   replace BK161:=kB BK161 hb
   replace BK165:=kB BK165 hb
   replace HB:=bB HB hb
   (try clear hb)
   refine hK.out _ _ ⟨cz BK165 0,cz BK165 1,cz BK160 0,((HB.out.cell (World.block_lt_of_cell? w _ hw170_0)).trans hw170_0),((HB.out.cell (World.block_lt_of_cell? w _ hw170_1)).trans hw170_1)⟩ (fun hHeld=>?_)
   clear hK K
   refine nq 46 ?_
   refine last_ (i:=6) (N:=none) (ba 7 127) rfl rfl (by kernel_rfl) (by decide) (fun K hK=>?_)
   have hs48:w47.cell? ⟨gb165,0,none⟩ = some (.int .i64 x166000_1):=cz BK165 0
   have hfs48:=blk_frozen BK165.out 0
   have hns48_0:=NB158_165.out
   have hns48_1:=NB159_165.out
   have hns48_2:=NB160_165.out
   have hns48_3:=NB161_165.out
   have hms48_0:=NB165_158.out
   have hms48_1:=NB165_159.out
   have hms48_2:=NB165_160.out
   have hms48_3:=NB165_161.out
   have hs49:w47.cell? ⟨gb165,1,none⟩ = some (.int .i64 x166001_1):=cz BK165 1
   have hfs49:=blk_frozen BK165.out 1
   have hns49_0:=NB158_165.out
   have hns49_1:=NB159_165.out
   have hns49_2:=NB160_165.out
   have hns49_3:=NB161_165.out
   have hms49_0:=NB165_158.out
   have hms49_1:=NB165_159.out
   have hms49_2:=NB165_160.out
   have hms49_3:=NB165_161.out
   refine skip_ (w1:=?_) (by rfl) rfl ?_ ?_
   rotate_left
   ·go_simp
    rfl
   refine hK.out _ _ ?_
   clear hK K
   refine done_ (by kernel_rfl) ?_
   try go_wp2
   go_roundg k1
   case measure=>have:=HK1.out;omega
   case rel=>exact ⟨(x8_1),(wrap64 (x19_1 + 1)),(t171),(t172),rfl,rfl,H',⟨by have:=HK1.out;omega⟩,⟨by refine blk_far ?_ NB158_165.out _;refine blk_far ?_ NB158_165.out _;exact BK158.out⟩,⟨by refine blk_far ?_ NB159_165.out _;refine blk_far ?_ NB159_165.out _;exact BK159.out⟩,⟨by refine blk_far ?_ NB160_165.out _;refine blk_far ?_ NB160_165.out _;exact BK160.out⟩,⟨by refine blk_far ?_ NB161_165.out _;refine blk_far ?_ NB161_165.out _;exact BK161.out⟩,⟨by refine blk_put (cs:=#[.int .i64 t171,.int .i64 x166001_1]) ?_ 1 _ rfl;refine blk_put (cs:=#[.int .i64 x166000_1,.int .i64 x166001_1]) ?_ 0 _ rfl;exact BK165.out⟩,⟨bl HB⟩⟩
end Go.Proofs.Ytjohcjfmlhihbaa.G
namespace Go.Proofs.Ytjohcjfmlhihbaa.G
open Go.RowKit Go.Proofs.YtjohcjfmlhihbaaW.PrintWords Go.Proofs.YtjohcjfmlhihbaaW.PrintLast Go.Proofs.YtjohcjfmlhihbaaW.PrintMore
set_option maxHeartbeats 8000000
set_option maxRecDepth 100000
attribute [local go_sem] cond_true cond_false fld23_0 fld23_1 fld45_0 fld45_1 fld109_0 fld109_1 fld94_0 fld94_1 max2_int min2_int max_two min_two max_three min_three max_four min_four   -- for this text's walks alone
def slices_Index_bool_bool.l0:Nat → List Bool → Bool → Int → Int → Option (Int)
 | 0,_,_,_,_=>none
 | k + 1,x0,x1,x7,x8=>if x8 < x7 then (if 0 ≤ x8 then (if x8 < (x0.length:Int) then (if (x1 == (rdOf false x0 x8)) = true then (some x8) else (slices_Index_bool_bool.l0 k x0 x1 x7 (wrap64 (x8 + 1)))) else (none)) else (none)) else (some (-1))
def slices_Index_bool_bool.f (k:Nat) (l0:List Bool) (a1:Bool):Option (Int):=slices_Index_bool_bool.l0 k l0 a1 (l0.length:Int) 0
theorem slices_Index_bool_bool.mono_l:∀ k,(∀ y0 y1 y2 y3,LeO (slices_Index_bool_bool.l0 k y0 y1 y2 y3) (slices_Index_bool_bool.l0 (k + 1) y0 y1 y2 y3))
 | 0=>fun _ _ _ _ r h=>by simp [slices_Index_bool_bool.l0] at h
 | k + 1=>by
  have ih0:=slices_Index_bool_bool.mono_l k
  intro y0 y1 y2 y3
  unfold slices_Index_bool_bool.l0
  repeat' first
  | (with_reducible exact ih0 _ _ _ _)
  | (with_reducible exact LeO.refl _)
  | (with_reducible exact LeO.none _)
  | (with_reducible refine LeO.ite ?_ ?_)
  | (with_reducible refine LeO.bind ?_ (fun _=>?_))
  | exact ih0 _ _ _ _
  | exact LeO.none _
  | refine LeO.ite ?_ ?_
  | refine LeO.bind ?_ (fun _=>?_)
theorem slices_Index_bool_bool.mono:∀ a0 a1 k,LeO (slices_Index_bool_bool.f k a0 a1) (slices_Index_bool_bool.f (k + 1) a0 a1):=by
 intro a0 a1 k
 have ih0:=slices_Index_bool_bool.mono_l k
 unfold slices_Index_bool_bool.f
 repeat' first
   | (with_reducible exact ih0 _ _ _ _)
   | (with_reducible exact LeO.refl _)
   | (with_reducible exact LeO.none _)
   | (with_reducible refine LeO.ite ?_ ?_)
   | (with_reducible refine LeO.bind ?_ (fun _=>?_))
   | exact ih0 _ _ _ _
   | exact LeO.none _
   | refine LeO.ite ?_ ?_
   | refine LeO.bind ?_ (fun _=>?_)
theorem slices_Index_bool_bool.calls (k:Nat) (A0:Option Addr) (c0:Nat) (l0:List Bool) (a1:Bool) (r:Int) (w:World) (hr0:Kd.C Kd.bool w A0 l0.length l0) (hc0:l0.length ≤ c0) (h:slices_Index_bool_bool.f k l0 a1 = some r) :
  Calls Try.prog 125 #[.slice A0 l0.length c0,.bool a1] w fun e w'=>e = .returned (.int .i64 r) ∧ Drawn0 w w':=by
 have HR0:=Aside0.mk hr0
 have HC0:=Aside0.mk hc0
 clear hr0 hc0
 have H:(slices_Index_bool_bool.l0 k l0 a1 (l0.length:Int) 0) = some r:=h
 clear h
 have H':=Aside0.mk H
 clear H
 go_enter Try.func125,Try.ntmps125
 go_wp2
 go_loopg [8] k (fun kq v8 w'=>∃ (x8_1:Int),v8 = .int .i64 x8_1 ∧ Aside0 (slices_Index_bool_bool.l0 kq l0 a1 (l0.length:Int) x8_1 = some r) ∧ Aside0 (kq ≤ k) ∧ Drawn0 w w')
 case atStart=>exact ⟨(0),(by first | rfl | (simp;done) | (simp [*];done)),H',⟨Nat.le_refl _⟩,by repeat (first | exact Drawn0.refl _ | apply Drawn0.step)⟩
 case round =>
  clear H'
  try clear c1
  try clear p2
  obtain ⟨x8_1,rfl,HA,HK1,⟨m1,rfl⟩⟩:=hrel
  cases gk with
  | zero=>exact absurd HA.out (by simp [slices_Index_bool_bool.l0])
  | succ k1 =>
   have H:=HA.out
   clear HA
   simp only [slices_Index_bool_bool.l0] at H
   by_cases c3:x8_1 < (l0.length:Int)
   case neg =>
    rw [if_neg c3] at H
    have c3b0:decide (x8_1 < (l0.length:Int)) = false:=decide_eq_false c3
    clear c3
    obtain rfl:=Option.some.inj H
    go_wp2
    go_ret
    exact ⟨by first | rfl | (simp;done) | (simp [*];done),by repeat (first | exact Drawn0.refl _ | apply Drawn0.step)⟩
   rw [if_pos c3] at H
   have c3b0:decide (x8_1 < (l0.length:Int)) = true:=decide_eq_true c3
   clear c3
   by_cases c4:0 ≤ x8_1
   case neg =>
    rw [if_neg c4] at H
    exact absurd H (by simp)
   rw [if_pos c4] at H
   have c4b0:decide (0 ≤ x8_1) = true:=decide_eq_true c4
   clear c4
   by_cases c5:x8_1 < (l0.length:Int)
   case neg =>
    rw [if_neg c5] at H
    exact absurd H (by simp)
   rw [if_pos c5] at H
   have c5b0:decide (x8_1 < (l0.length:Int)) = true:=decide_eq_true c5
   clear c5
   by_cases c6:(a1 == (rdOf false l0 x8_1)) = true
   ·rw [if_pos c6] at H
    have c6b0:(a1 == (rdOf false l0 x8_1)) = true:=c6
    (try (have c6b1:decide (a1 = (rdOf false l0 x8_1)) = true:=by simpa using c6))
    (try (have c6b2:(a1 == (rdOf false l0 x8_1)) = true:=by simpa using c6))
    clear c6
    obtain rfl:=Option.some.inj H
    have p236:0 ≤ (x8_1:Int):=of_decide_eq_true (by first | (with_reducible assumption) | assumption)
    have q236:x8_1 < (l0.length:Int):=of_decide_eq_true (by first | (with_reducible assumption) | assumption)
    obtain ⟨ad236,e236,hx236_0⟩:=Kd.at_bool HR0.out x8_1 p236 q236
    cases e236
    replace p236:=eq_true p236
    replace q236:=eq_true q236
    go_wp2
    go_ret
    exact ⟨by first | rfl | (simp;done) | (simp [*];done),by repeat (first | exact Drawn0.refl _ | apply Drawn0.step)⟩
   rw [if_neg c6] at H
   have c6b0:(a1 == (rdOf false l0 x8_1)) = false:=by simpa using c6
   (try (have c6b1:decide (a1 = (rdOf false l0 x8_1)) = false:=by simpa using c6))
   (try (have c6b2:(a1 == (rdOf false l0 x8_1)) = false:=by simpa using c6))
   (try (have c6b3:¬ (a1 = (rdOf false l0 x8_1)):=by simpa using c6))
   clear c6
   have H':=Aside0.mk H
   clear H
   have p236:0 ≤ (x8_1:Int):=of_decide_eq_true (by first | (with_reducible assumption) | assumption)
   have q236:x8_1 < (l0.length:Int):=of_decide_eq_true (by first | (with_reducible assumption) | assumption)
   obtain ⟨ad236,e236,hx236_0⟩:=Kd.at_bool HR0.out x8_1 p236 q236
   cases e236
   replace p236:=eq_true p236
   replace q236:=eq_true q236
   go_wp2
   go_roundg k1
   case measure=>have:=HK1.out;omega
   case rel=>exact ⟨(wrap64 (x8_1 + 1)),(by first | rfl | (simp;done) | (simp [*];done)),H',⟨by have:=HK1.out;omega⟩,by repeat (first | exact Drawn0.refl _ | apply Drawn0.step)⟩
def slices_Contains_bool_bool.f (k:Nat) (l0:List Bool) (a1:Bool):Option (Bool):=(slices_Index_bool_bool.f k l0 a1).bind fun t237=>(some (decide (t237 ≥ 0)))
theorem slices_Contains_bool_bool.mono:∀ a0 a1 k,LeO (slices_Contains_bool_bool.f k a0 a1) (slices_Contains_bool_bool.f (k + 1) a0 a1):=by
 intro a0 a1 k
 unfold slices_Contains_bool_bool.f
 repeat' first
   | (with_reducible exact slices_Index_bool_bool.mono _ _ _)
   | (with_reducible exact LeO.refl _)
   | (with_reducible exact LeO.none _)
   | (with_reducible refine LeO.ite ?_ ?_)
   | (with_reducible refine LeO.bind ?_ (fun _=>?_))
   | exact slices_Index_bool_bool.mono _ _ _
   | exact LeO.none _
   | refine LeO.ite ?_ ?_
   | refine LeO.bind ?_ (fun _=>?_)
theorem slices_Contains_bool_bool.calls (k:Nat) (A0:Option Addr) (c0:Nat) (l0:List Bool) (a1:Bool) (r:Bool) (w:World) (hr0:Kd.C Kd.bool w A0 l0.length l0) (hc0:l0.length ≤ c0) (h:slices_Contains_bool_bool.f k l0 a1 = some r) :
  Calls Try.prog 105 #[.slice A0 l0.length c0,.bool a1] w fun e w'=>e = .returned (.bool r) ∧ Drawn0 w w':=by
 have HR0:=Aside0.mk hr0
 have HC0:=Aside0.mk hc0
 clear hr0 hc0
 have H:((slices_Index_bool_bool.f k l0 a1).bind fun t237=>(some (decide (t237 ≥ 0)))) = some r:=h
 clear h
 replace H:=Option.bind_eq_some_iff.mp H
 obtain ⟨t237,A30,H⟩:=H
 replace H:(some (decide (t237 ≥ 0))) = some r:=H
 have A3:=Aside0.mk A30
 clear A30
 obtain rfl:=Option.some.inj H
 go_enter Try.func105,Try.ntmps105
 go_wp2_with (first | ((with_reducible refine gate_callee (f:=125) rfl ?_);refine goesL_ (some 7) rfl rfl Try.func125 (by kernel_rfl) rfl #[.slice A0 l0.length c0,.bool a1] rfl (by (try simp only [List.map_toArray,List.map_cons,List.map_nil]);first | done | rfl | (simp only [List.length_drop,List.length_take];rfl)) ?_;(with_reducible refine (slices_Index_bool_bool.calls k _ _ l0 a1 t237 _ ?side1 ?side2 A3.out).mono ?_);(case side1=>repeat (first | exact HR0.out | (with_reducible refine Kd.C_alloc ?_ _) | (with_reducible refine Kd.C_drewN ?_ _) | (with_reducible refine Kd.C_drew ?_)));(case side2=>exact HC0.out);rintro e w' ⟨rfl,⟨nd,rfl⟩⟩;refine ⟨_,rfl,?_⟩))
 go_ret
 exact ⟨by first | rfl | (simp;done) | (simp [*];done),by repeat (first | exact Drawn0.refl _ | apply Drawn0.step)⟩
def shares_times.f (k:Nat) (a0_0:Int) (a0_1:Int) (a1:Int):Option (Int × Int):=(shares_frac.f k (wrap64 (a0_0 * a1)) a0_1).bind fun bt240=>(some (bt240.1,bt240.2))
theorem shares_times.mono:∀ a0 a1 a2 k,LeO (shares_times.f k a0 a1 a2) (shares_times.f (k + 1) a0 a1 a2):=by
 intro a0 a1 a2 k
 unfold shares_times.f
 repeat' first
   | (with_reducible exact shares_frac.mono _ _ _)
   | (with_reducible exact LeO.refl _)
   | (with_reducible exact LeO.none _)
   | (with_reducible refine LeO.ite ?_ ?_)
   | (with_reducible refine LeO.bind ?_ (fun _=>?_))
   | exact shares_frac.mono _ _ _
   | exact LeO.none _
   | refine LeO.ite ?_ ?_
   | refine LeO.bind ?_ (fun _=>?_)
theorem shares_times.calls (k:Nat) (a0_0:Int) (a0_1:Int) (a1:Int) (r1:Int) (r2:Int) (w:World) (h:shares_times.f k a0_0 a0_1 a1 = some (r1,r2)) :
  Calls Try.prog 106 #[.agg #[.int .i64 a0_0,.int .i64 a0_1],.int .i64 a1] w fun e w'=>e = .returned (.agg #[.int .i64 r1,.int .i64 r2]) ∧ Below w.heap.size w w':=by
 have hu23:=Try.underlying23
 have HB:=Aside0.mk (Below.refl w.heap.size w)
 have H:((shares_frac.f k (wrap64 (a0_0 * a1)) a0_1).bind fun bt240=>(some (bt240.1,bt240.2))) = some (r1,r2):=h
 clear h
 replace H:=Option.bind_eq_some_iff.mp H
 obtain ⟨⟨t240,t241⟩,A30,H⟩:=H
 replace H:(some (t240,t241)) = some (r1,r2):=H
 have A3:=Aside0.mk A30
 clear A30
 simp only [Option.some.injEq,Prod.mk.injEq] at H
 obtain ⟨rfl,rfl⟩:=H
 go_enter Try.func106,Try.ntmps106
 go_wp2_with (first | ((with_reducible refine gate_dst (N:=2) rfl ?_);refine box_event ?hg (N:=2) ?hd (cs:=#[.int .i64 a0_0,.int .i64 a0_1]) (t:=23) ?hr ?_;(case hd=>rfl);(case hg=>rfl);(case hr=>first | (go_simp;done) | (go_simp;rfl));intro gb238 hg w4 hbox hb;have n0_:=Aside0.mk (below_step (by repeat (first | (with_reducible first | exact HB.out | apply below_alloc | apply pw_below_drewN | apply below_drew1) | exact HB.out)) hb);have n1_:=Aside0.mk (hbox);have n2_:=Aside0.mk ((by rw [hg];exact (below_size (by repeat (first | (with_reducible first | exact HB.out | apply below_alloc | apply pw_below_drewN | apply below_drew1) | exact HB.out))):w.heap.size ≤ gb238));have n3_:=Aside0.mk ((by rw [hg];exact (below_size (by repeat (first | (with_reducible first | exact HB.out | apply below_alloc | apply pw_below_drewN | apply below_drew1) | exact HB.out))):w.heap.size ≤ gb238));clear HB;have HB:=n0_;have BK238:=n1_;have GW238:=n2_;have GE238:=n3_;clear n0_ n1_ n2_ n3_;clear hb hbox hg) | ((with_reducible refine gate_dst (N:=4) rfl ?_);refine box_event ?hg (N:=4) ?hd (cs:=#[.int .i64 0,.int .i64 0]) (t:=23) ?hr ?_;(case hd=>rfl);(case hg=>rfl);(case hr=>first | (go_simp;done) | (go_simp;rfl));intro gb239 hg w5 hbox hb;have n0_:=Aside0.mk (blk_below (g:=gb238) (o:=.cells #[.int .i64 a0_0,.int .i64 a0_1] 23 (0,0)) (by (with_reducible repeat (first | refine blk_drewN ?_ _ | refine blk_drew ?_ | refine blk_alloc ?_ _));exact BK238.out) hb);have n1_:=Aside0.mk (below_step (by repeat (first | (with_reducible first | exact HB.out | apply below_alloc | apply pw_below_drewN | apply below_drew1 | refine below_set ?_ GE238.out) | exact HB.out)) hb);have n2_:=Aside0.mk (hbox);have n3_:=Aside0.mk ((by rw [hg];exact (below_size (by repeat (first | (with_reducible first | exact HB.out | apply below_alloc | apply pw_below_drewN | apply below_drew1 | refine below_set ?_ GE238.out) | exact HB.out))):w.heap.size ≤ gb239));have n4_:=Aside0.mk ((by rw [hg];exact (below_size (by repeat (first | (with_reducible first | exact HB.out | apply below_alloc | apply pw_below_drewN | apply below_drew1 | refine below_set ?_ GE238.out) | exact HB.out))):w.heap.size ≤ gb239));have n5_:=Aside0.mk ((by rw [hg];exact Nat.ne_of_lt (blk_lt (g:=gb238) (o:=.cells #[.int .i64 a0_0,.int .i64 a0_1] 23 (0,0)) (by (with_reducible repeat (first | refine blk_drewN ?_ _ | refine blk_drew ?_ | refine blk_alloc ?_ _));exact BK238.out)):gb238 ≠ gb239));have n6_:=Aside0.mk ((by rw [hg];exact Nat.ne_of_gt (blk_lt (g:=gb238) (o:=.cells #[.int .i64 a0_0,.int .i64 a0_1] 23 (0,0)) (by (with_reducible repeat (first | refine blk_drewN ?_ _ | refine blk_drew ?_ | refine blk_alloc ?_ _));exact BK238.out)):gb239 ≠ gb238));clear BK238;clear HB;have BK238:=n0_;have HB:=n1_;have BK239:=n2_;have GW239:=n3_;have GE239:=n4_;have NB238_239:=n5_;have NB239_238:=n6_;clear n0_ n1_ n2_ n3_ n4_ n5_ n6_;clear hb hbox hg;have hnb6:=NB238_239.out;have hnc6:=NB239_238.out;have hcz7_0:w5.cell? ⟨gb238,0,none⟩ = some (.int .i64 a0_0):=(blk_cell BK238.out 0).trans rfl;have hcz7_1:w5.cell? ⟨gb238,1,none⟩ = some (.int .i64 a0_1):=(blk_cell BK238.out 1).trans rfl;have hfz7_0:=blk_frozen BK238.out 0;have hfz7_1:=blk_frozen BK238.out 1) | ((with_reducible refine gate_callee (f:=117) rfl ?_);refine goesL_ (some 11) rfl rfl Try.func117 (by kernel_rfl) rfl #[.int .i64 (wrap64 (a0_0 * a1)),.int .i64 a0_1] rfl (by (try simp only [List.map_toArray,List.map_cons,List.map_nil]);first | done | rfl | (simp only [List.length_drop,List.length_take];rfl)) ?_;(with_reducible refine (shares_frac.calls k (wrap64 (a0_0 * a1)) a0_1 t240 t241 _ A3.out).mono ?_);rintro e w8 ⟨rfl,hb⟩;refine ⟨_,rfl,?_⟩;have n0_:=Aside0.mk (blk_below (g:=gb238) (o:=.cells #[.int .i64 a0_0,.int .i64 a0_1] 23 (0,0)) (by (with_reducible repeat (first | refine blk_drewN ?_ _ | refine blk_drew ?_ | refine blk_alloc ?_ _));exact BK238.out) hb);have n1_:=Aside0.mk (blk_below (g:=gb239) (o:=.cells #[.int .i64 0,.int .i64 0] 23 (0,0)) (by (with_reducible repeat (first | refine blk_drewN ?_ _ | refine blk_drew ?_ | refine blk_alloc ?_ _));exact BK239.out) hb);have n2_:=Aside0.mk (below_step (by repeat (first | (with_reducible first | exact HB.out | apply below_alloc | apply pw_below_drewN | apply below_drew1 | refine below_set ?_ GE238.out | refine below_set ?_ GE239.out) | exact HB.out)) hb);clear BK238;clear BK239;clear HB;have BK238:=n0_;have BK239:=n1_;have HB:=n2_;clear n0_ n1_ n2_;(try clear hb);have hcz9_0:w8.cell? ⟨gb239,0,none⟩ = some (.int .i64 0):=(blk_cell BK239.out 0).trans rfl;have hcz9_1:w8.cell? ⟨gb239,1,none⟩ = some (.int .i64 0):=(blk_cell BK239.out 1).trans rfl;have hfz9_0:=blk_frozen BK239.out 0;have hfz9_1:=blk_frozen BK239.out 1))
 refine bodyPost_ret (results_cell_row rfl _ _ gb239 23 #[.int .i64 t240,.int .i64 t241] (0,0) _ rfl (by (with_reducible repeat (first | refine blk_drewN ?_ _ | refine blk_drew ?_ | refine blk_alloc ?_ _));refine blk_put (cs:=#[.int .i64 t240,.int .i64 0]) ?_ 1 _ rfl;(with_reducible repeat (first | refine blk_drewN ?_ _ | refine blk_drew ?_ | refine blk_alloc ?_ _));refine blk_put (cs:=#[.int .i64 0,.int .i64 0]) ?_ 0 _ rfl;(with_reducible repeat (first | refine blk_drewN ?_ _ | refine blk_drew ?_ | refine blk_alloc ?_ _));exact BK239.out) Try.underlying23 rfl (by kernel_rfl)) rfl ?_
 exact ⟨by first | rfl | (simp [errW_none,errW_some] <;> rfl) | (simp [*,errW_none,errW_some] <;> rfl),by repeat (first | (with_reducible first | exact HB.out | apply below_alloc | apply pw_below_drewN | apply below_drew1 | refine below_set ?_ GE238.out | refine below_set ?_ GE239.out) | exact HB.out)⟩
def cmp_isNaN_int.f (a0:Int):Option (Bool):=some (a0 != a0)
theorem cmp_isNaN_int.calls (a0:Int) (r:Bool) (w:World) (h:cmp_isNaN_int.f a0 = some r) :
  Calls Try.prog 128 #[.int .i64 a0] w fun e w'=>e = .returned (.bool r) ∧ Drawn0 w w':=by
 have H:(some (a0 != a0)) = some r:=h
 clear h
 obtain rfl:=Option.some.inj H
 go_enter Try.func128,Try.ntmps128
 go_wp2
 go_ret
 exact ⟨by first | rfl | (simp;done) | (simp [*];done),by repeat (first | exact Drawn0.refl _ | apply Drawn0.step)⟩
def cmp_Compare_int.f (a0:Int) (a1:Int):Option (Int):=(cmp_isNaN_int.f a0).bind fun t114=>((cmp_isNaN_int.f a1).bind fun t115=>(if t114 = true then (if t115 = true then (some 0) else (some (-1))) else (if t115 = true then (some 1) else (if a0 < a1 then (some (-1)) else (if a0 > a1 then (some 1) else (some 0))))))
theorem cmp_Compare_int.calls (a0:Int) (a1:Int) (r:Int) (w:World) (h:cmp_Compare_int.f a0 a1 = some r) :
  Calls Try.prog 115 #[.int .i64 a0,.int .i64 a1] w fun e w'=>e = .returned (.int .i64 r) ∧ Drawn0 w w':=by
 have H:((cmp_isNaN_int.f a0).bind fun t114=>((cmp_isNaN_int.f a1).bind fun t115=>(if t114 = true then (if t115 = true then (some 0) else (some (-1))) else (if t115 = true then (some 1) else (if a0 < a1 then (some (-1)) else (if a0 > a1 then (some 1) else (some 0))))))) = some r:=h
 clear h
 replace H:=Option.bind_eq_some_iff.mp H
 obtain ⟨t114,A30,H⟩:=H
 replace H:((cmp_isNaN_int.f a1).bind fun t115=>(if t114 = true then (if t115 = true then (some 0) else (some (-1))) else (if t115 = true then (some 1) else (if a0 < a1 then (some (-1)) else (if a0 > a1 then (some 1) else (some 0)))))) = some r:=H
 have A3:=Aside0.mk A30
 clear A30
 replace H:=Option.bind_eq_some_iff.mp H
 obtain ⟨t115,A40,H⟩:=H
 replace H:(if t114 = true then (if t115 = true then (some 0) else (some (-1))) else (if t115 = true then (some 1) else (if a0 < a1 then (some (-1)) else (if a0 > a1 then (some 1) else (some 0))))) = some r:=H
 have A4:=Aside0.mk A40
 clear A40
 by_cases c5:t114 = true
 ·subst c5
  have H1:(if t115 = true then (some 0) else (some (-1))) = some r:=by rw [if_pos rfl] at H;exact H
  clear H
  have H:=H1
  clear H1
  by_cases c6:t115 = true
  ·subst c6
   have H1:(some 0) = some r:=by rw [if_pos rfl] at H;exact H
   clear H
   have H:=H1
   clear H1
   obtain rfl:=Option.some.inj H
   go_enter Try.func115,Try.ntmps115
   go_wp2_with (first | ((with_reducible refine gate_callee (f:=128) rfl ?_);refine goesL_ (some 8) rfl rfl Try.func128 (by kernel_rfl) rfl #[.int .i64 a0] rfl (by (try simp only [List.map_toArray,List.map_cons,List.map_nil]);first | done | rfl | (simp only [List.length_drop,List.length_take];rfl)) ?_;(with_reducible refine (cmp_isNaN_int.calls a0 true _ A3.out).mono ?_);rintro e w' ⟨rfl,⟨nd,rfl⟩⟩;refine ⟨_,rfl,?_⟩) | ((with_reducible refine gate_callee (f:=128) rfl ?_);refine goesL_ (some 10) rfl rfl Try.func128 (by kernel_rfl) rfl #[.int .i64 a1] rfl (by (try simp only [List.map_toArray,List.map_cons,List.map_nil]);first | done | rfl | (simp only [List.length_drop,List.length_take];rfl)) ?_;(with_reducible refine (cmp_isNaN_int.calls a1 true _ A4.out).mono ?_);rintro e w' ⟨rfl,⟨nd,rfl⟩⟩;refine ⟨_,rfl,?_⟩))
   go_ret
   exact ⟨by first | rfl | (simp;done) | (simp [*];done),by repeat (first | exact Drawn0.refl _ | apply Drawn0.step)⟩
  replace c6:=Bool.eq_false_iff.mpr c6
  subst c6
  have H1:(some (-1)) = some r:=by rw [if_neg (show ¬ (false = true) by decide)] at H;exact H
  clear H
  have H:=H1
  clear H1
  obtain rfl:=Option.some.inj H
  go_enter Try.func115,Try.ntmps115
  go_wp2_with (first | ((with_reducible refine gate_callee (f:=128) rfl ?_);refine goesL_ (some 8) rfl rfl Try.func128 (by kernel_rfl) rfl #[.int .i64 a0] rfl (by (try simp only [List.map_toArray,List.map_cons,List.map_nil]);first | done | rfl | (simp only [List.length_drop,List.length_take];rfl)) ?_;(with_reducible refine (cmp_isNaN_int.calls a0 true _ A3.out).mono ?_);rintro e w' ⟨rfl,⟨nd,rfl⟩⟩;refine ⟨_,rfl,?_⟩) | ((with_reducible refine gate_callee (f:=128) rfl ?_);refine goesL_ (some 10) rfl rfl Try.func128 (by kernel_rfl) rfl #[.int .i64 a1] rfl (by (try simp only [List.map_toArray,List.map_cons,List.map_nil]);first | done | rfl | (simp only [List.length_drop,List.length_take];rfl)) ?_;(with_reducible refine (cmp_isNaN_int.calls a1 false _ A4.out).mono ?_);rintro e w' ⟨rfl,⟨nd,rfl⟩⟩;refine ⟨_,rfl,?_⟩))
  go_ret
  exact ⟨by first | rfl | (simp;done) | (simp [*];done),by repeat (first | exact Drawn0.refl _ | apply Drawn0.step)⟩
 replace c5:=Bool.eq_false_iff.mpr c5
 subst c5
 have H1:(if t115 = true then (some 1) else (if a0 < a1 then (some (-1)) else (if a0 > a1 then (some 1) else (some 0)))) = some r:=by rw [if_neg (show ¬ (false = true) by decide)] at H;exact H
 clear H
 have H:=H1
 clear H1
 by_cases c7:t115 = true
 ·subst c7
  have H1:(some 1) = some r:=by rw [if_pos rfl] at H;exact H
  clear H
  have H:=H1
  clear H1
  obtain rfl:=Option.some.inj H
  go_enter Try.func115,Try.ntmps115
  go_wp2_with (first | ((with_reducible refine gate_callee (f:=128) rfl ?_);refine goesL_ (some 8) rfl rfl Try.func128 (by kernel_rfl) rfl #[.int .i64 a0] rfl (by (try simp only [List.map_toArray,List.map_cons,List.map_nil]);first | done | rfl | (simp only [List.length_drop,List.length_take];rfl)) ?_;(with_reducible refine (cmp_isNaN_int.calls a0 false _ A3.out).mono ?_);rintro e w' ⟨rfl,⟨nd,rfl⟩⟩;refine ⟨_,rfl,?_⟩) | ((with_reducible refine gate_callee (f:=128) rfl ?_);refine goesL_ (some 10) rfl rfl Try.func128 (by kernel_rfl) rfl #[.int .i64 a1] rfl (by (try simp only [List.map_toArray,List.map_cons,List.map_nil]);first | done | rfl | (simp only [List.length_drop,List.length_take];rfl)) ?_;(with_reducible refine (cmp_isNaN_int.calls a1 true _ A4.out).mono ?_);rintro e w' ⟨rfl,⟨nd,rfl⟩⟩;refine ⟨_,rfl,?_⟩))
  go_ret
  exact ⟨by first | rfl | (simp;done) | (simp [*];done),by repeat (first | exact Drawn0.refl _ | apply Drawn0.step)⟩
 replace c7:=Bool.eq_false_iff.mpr c7
 subst c7
 have H1:(if a0 < a1 then (some (-1)) else (if a0 > a1 then (some 1) else (some 0))) = some r:=by rw [if_neg (show ¬ (false = true) by decide)] at H;exact H
 clear H
 have H:=H1
 clear H1
 by_cases c8:a0 < a1
 ·rw [if_pos c8] at H
  have c8b0:decide (a0 < a1) = true:=decide_eq_true c8
  clear c8
  obtain rfl:=Option.some.inj H
  go_enter Try.func115,Try.ntmps115
  go_wp2_with (first | ((with_reducible refine gate_callee (f:=128) rfl ?_);refine goesL_ (some 8) rfl rfl Try.func128 (by kernel_rfl) rfl #[.int .i64 a0] rfl (by (try simp only [List.map_toArray,List.map_cons,List.map_nil]);first | done | rfl | (simp only [List.length_drop,List.length_take];rfl)) ?_;(with_reducible refine (cmp_isNaN_int.calls a0 false _ A3.out).mono ?_);rintro e w' ⟨rfl,⟨nd,rfl⟩⟩;refine ⟨_,rfl,?_⟩) | ((with_reducible refine gate_callee (f:=128) rfl ?_);refine goesL_ (some 10) rfl rfl Try.func128 (by kernel_rfl) rfl #[.int .i64 a1] rfl (by (try simp only [List.map_toArray,List.map_cons,List.map_nil]);first | done | rfl | (simp only [List.length_drop,List.length_take];rfl)) ?_;(with_reducible refine (cmp_isNaN_int.calls a1 false _ A4.out).mono ?_);rintro e w' ⟨rfl,⟨nd,rfl⟩⟩;refine ⟨_,rfl,?_⟩))
  go_ret
  exact ⟨by first | rfl | (simp;done) | (simp [*];done),by repeat (first | exact Drawn0.refl _ | apply Drawn0.step)⟩
 rw [if_neg c8] at H
 have c8b0:decide (a0 < a1) = false:=decide_eq_false c8
 clear c8
 by_cases c9:a0 > a1
 ·rw [if_pos c9] at H
  have c9b0:decide (a1 < a0) = true:=decide_eq_true c9
  clear c9
  obtain rfl:=Option.some.inj H
  go_enter Try.func115,Try.ntmps115
  go_wp2_with (first | ((with_reducible refine gate_callee (f:=128) rfl ?_);refine goesL_ (some 8) rfl rfl Try.func128 (by kernel_rfl) rfl #[.int .i64 a0] rfl (by (try simp only [List.map_toArray,List.map_cons,List.map_nil]);first | done | rfl | (simp only [List.length_drop,List.length_take];rfl)) ?_;(with_reducible refine (cmp_isNaN_int.calls a0 false _ A3.out).mono ?_);rintro e w' ⟨rfl,⟨nd,rfl⟩⟩;refine ⟨_,rfl,?_⟩) | ((with_reducible refine gate_callee (f:=128) rfl ?_);refine goesL_ (some 10) rfl rfl Try.func128 (by kernel_rfl) rfl #[.int .i64 a1] rfl (by (try simp only [List.map_toArray,List.map_cons,List.map_nil]);first | done | rfl | (simp only [List.length_drop,List.length_take];rfl)) ?_;(with_reducible refine (cmp_isNaN_int.calls a1 false _ A4.out).mono ?_);rintro e w' ⟨rfl,⟨nd,rfl⟩⟩;refine ⟨_,rfl,?_⟩))
  go_ret
  exact ⟨by first | rfl | (simp;done) | (simp [*];done),by repeat (first | exact Drawn0.refl _ | apply Drawn0.step)⟩
 rw [if_neg c9] at H
 have c9b0:decide (a1 < a0) = false:=decide_eq_false c9
 clear c9
 obtain rfl:=Option.some.inj H
 go_enter Try.func115,Try.ntmps115
 go_wp2_with (first | ((with_reducible refine gate_callee (f:=128) rfl ?_);refine goesL_ (some 8) rfl rfl Try.func128 (by kernel_rfl) rfl #[.int .i64 a0] rfl (by (try simp only [List.map_toArray,List.map_cons,List.map_nil]);first | done | rfl | (simp only [List.length_drop,List.length_take];rfl)) ?_;(with_reducible refine (cmp_isNaN_int.calls a0 false _ A3.out).mono ?_);rintro e w' ⟨rfl,⟨nd,rfl⟩⟩;refine ⟨_,rfl,?_⟩) | ((with_reducible refine gate_callee (f:=128) rfl ?_);refine goesL_ (some 10) rfl rfl Try.func128 (by kernel_rfl) rfl #[.int .i64 a1] rfl (by (try simp only [List.map_toArray,List.map_cons,List.map_nil]);first | done | rfl | (simp only [List.length_drop,List.length_take];rfl)) ?_;(with_reducible refine (cmp_isNaN_int.calls a1 false _ A4.out).mono ?_);rintro e w' ⟨rfl,⟨nd,rfl⟩⟩;refine ⟨_,rfl,?_⟩))
 go_ret
 exact ⟨by first | rfl | (simp;done) | (simp [*];done),by repeat (first | exact Drawn0.refl _ | apply Drawn0.step)⟩
end Go.Proofs.Ytjohcjfmlhihbaa.G
