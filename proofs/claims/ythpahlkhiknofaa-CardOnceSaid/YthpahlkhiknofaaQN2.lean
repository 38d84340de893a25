/- Several texts, joined. -/
import Derived.Below
import Derived.Deep.Draws
import Derived.Deep.AppendLies
import Derived.Maps.AppendAt
import Derived.OwnWalk
import Derived.Laws.BytesArg
import Derived.Laws.MakeOwn
import Derived.Laws.OwnMore
import Derived.Deep.OwnRows
import Derived.Tactics
import Derived.Lib.ConvBytes
import Derived.Laws.Slices
import Derived.WalkKit
import Derived.KernelRfl
import Derived.RowKit3
import Derived.Deep.LoopGhost
import Derived.Deep.QuietTactic
import Derived.BigQuiet
import Derived.WideLaws
import Derived.Deep.DeepCutAuto
import Derived.Deep.CutBlock
import Derived.Deep.RegionHeld3
import Derived.Laws.Rows
import Derived.Lib.AppendStr
import Derived.ArgAppend
import Derived.Laws.IdiomCopy
import Derived.OrdersHeld
import Derived.Laws.BitsLemmas
import Derived.RowKit
import Derived.Shelf.Small.Bits
import Derived.Shelf.Small.Strs
import Derived.Shelf.Strconv.Itoa0
import Derived.Shelf.Strings.Search1
import Derived.Shelf.Strings.Search2
import Derived.Shelf.Strings.Search3
import Derived.Shelf.LaysM
import Derived.Shelf.Strings.Shaped
import Derived.Shelf.GgClosure.StringsIndexFunc
import Derived.Ground.GgwProg
import Derived.Shelf.GgClosure.StringsIndexFuncTop
import Derived.Shelf.GgClosure.StringsRunes
import Derived.Shelf.Strings.FuncGrows
import Derived.Shelf.Slices.Turned
import Derived.Ground.Names2Prog
import Derived.Shelf.Slices.Clone
import Derived.Ground.SlgnProg
import Derived.Shelf.SlicesE.Clone
import Derived.Test.YthpahlkhiknofaaProg
import Derived.Test.YthpahlkhiknofaaVA
import Derived.Test.YthpahlkhiknofaaQN1
set_option linter.unusedVariables false
set_option linter.unusedSimpArgs false
namespace Go.Proofs.Ythpahlkhiknofaa.G
open Go.RowKit Go.Proofs.YthpahlkhiknofaaW.PrintWords Go.Proofs.YthpahlkhiknofaaW.PrintLast Go.Proofs.YthpahlkhiknofaaW.PrintMore
attribute [local go_sem] max2_int min2_int max_two min_two max_three min_three max_four min_four   -- for this text's walks alone
set_option linter.unusedVariables false
set_option linter.unusedSimpArgs false
def errW:Option Int → Value
 | none=>.nilIface
 | some c=>.iface 0 (.int .i64 c)
theorem errW_none:errW none = .nilIface:=rfl
theorem errW_some (c:Int):errW (some c) = .iface 0 (.int .i64 c):=rfl
theorem info3:(Try.prog.info? 3).map (fun i=>(i.zero,i.size,i.bytes)) = some (some (.int .i64 0),1,8):=by kernel_rfl
theorem info5:(Try.prog.info? 5).map (fun i=>(i.zero,i.size,i.bytes)) = some (some (.int .u8 0),1,1):=by kernel_rfl
theorem info22:(Try.prog.info? 22).map (fun i=>(i.zero,i.size,i.bytes)) = some (some (.slice none 0 0),1,24):=by kernel_rfl
theorem info96:(Try.prog.info? 96).map (fun i=>(i.zero,i.size,i.bytes)) = some (some (.agg #[(.int .i64 0),(.int .i64 0)]),2,16):=by kernel_rfl
def rd_L3 (xs:List (List Int)) (i:Int):(List Int):=xs.getD i.toNat ([]:List Int)
theorem at_L3 {w:World} {A:Option Addr} {n:Nat} {xs:List (List Int)} (h:Kd.C (Kd.slice 3 (Kd.int .i64)) w A n xs) (i:Int) (h0:0 ≤ i) (h1:i < n):∃ ad A0 c0,A = some ad ∧ w.cell? (ad.add i.toNat) = some (.slice A0 (rd_L3 xs i).length c0) ∧ (rd_L3 xs i).length ≤ c0 ∧ (Kd.int .i64).C w A0 (rd_L3 xs i).length (rd_L3 xs i):=by
 obtain ⟨ad,c,e,_,hK,hc0⟩:=Kd.C_get h ([]:List Int) i h0 h1
 have hc:∀ j u,c[j]? = some u → w.cell? (ad.add (i.toNat * 1 + j)) = some u:=hc0
 obtain ⟨A0,c0,rfl,l0,g0⟩:=hK
 exact ⟨ad,A0,c0,e,by have hq:=hc 0 _ rfl;rwa [Nat.mul_one,Nat.add_zero] at hq,l0,g0⟩
structure S96 where
 f0:Int
 f1:Int
def z96:S96:=⟨(0:Int),(0:Int)⟩
def k96:Kd S96:=Kd.iso (Kd.pair (Kd.int .i64) (Kd.int .i64)) (fun x:S96=>(x.f0,x.f1))
theorem k96_open {w:World} {x:S96} {cs:List Value} (h:k96.K w x cs):cs = [.int .i64 x.f0,.int .i64 x.f1]:=by
 obtain ⟨_,_,rfl,rfl,rfl⟩:=h
 exact rfl
def rd_T96 (xs:List S96) (i:Int):S96:=xs.getD i.toNat z96
theorem at_T96 {w:World} {A:Option Addr} {n:Nat} {xs:List S96} (h:Kd.C k96 w A n xs) (i:Int) (h0:0 ≤ i) (h1:i < n):∃ ad , A = some ad ∧ w.cell? (ad.add (i.toNat * 2)) = some (.int .i64 (rd_T96 xs i).f0) ∧ w.cell? ⟨(ad.add (i.toNat * 2)).block,(ad.add (i.toNat * 2)).off + 1,none⟩ = some (.int .i64 (rd_T96 xs i).f1):=by
 obtain ⟨ad,c,e,_,hK,hc0⟩:=Kd.C_get h z96 i h0 h1
 have hc:∀ j u,c[j]? = some u → w.cell? (ad.add (i.toNat * 2 + j)) = some u:=hc0
 obtain rfl:=k96_open hK
 exact ⟨ad,e,hc 0 _ rfl,by rw [← add_field _ _ 1 (by omega)];exact hc 1 _ rfl⟩
structure S81 where
 f0:Int
 f1:ByteArray
end Go.Proofs.Ythpahlkhiknofaa.G
namespace Go.Proofs
open Go.Shelf
def Try.lays125_ren:Go.Shelf.Ren:=⟨fun | 125=>94 | 128=>116 | 129=>117 | n=>n,fun | 46=>91 | 3=>3 | 51=>134 | 53=>136 | 4=>4 | 5=>5 | 9=>9 | n=>n,fun | n=>n⟩
theorem Try.lays125:Go.Proofs.Lays.n125 Try.prog Try.lays125_ren:={
  mixed:=by kernel_rfl
  f125:=Try.func94.trans (congrArg some (by kernel_rfl))
  f128:=Try.func116.trans (congrArg some (by kernel_rfl))
  f129:=Try.func117.trans (congrArg some (by kernel_rfl))
  t3:=Try.underlying3
  a3:=Try.isAgg3
  z3:=Try.sizeOf3
  v3:=Try.zeroValue3
  t4:=Try.underlying4
  a4:=Try.isAgg4
  z4:=Try.sizeOf4
  v4:=Try.zeroValue4
  t5:=Try.underlying5
  a5:=Try.isAgg5
  z5:=Try.sizeOf5
  v5:=Try.zeroValue5
  t9:=Try.underlying9
  a9:=Try.isAgg9
  z9:=Try.sizeOf9
  v9:=Try.zeroValue9
  t46:=Try.underlying91
  a46:=Try.isAgg91
  z46:=Try.sizeOf91
  v46:=Try.zeroValue91
  t51:=Try.underlying134
  a51:=Try.isAgg134
  z51:=Try.sizeOf134
  v51:=Try.zeroValue134
  t53:=Try.underlying136
  a53:=Try.isAgg136
  z53:=Try.sizeOf136
  v53:=Try.zeroValue136 }
/-- bits.Len: "Len returns the minimum number of bits required to represent x; the result is 0 for x == 0.": IT RETURNS 'Lib.bitLen x';the world is as it was. (A uint has 64 bits in the model.) ITS CALLEE bits.Len64 IS MET BY ITS OWN CONTRACT OFF THE SHELF (lay that first). (LAID: no walk: one application.) -/
theorem Try.bits_Len (x:Int) (w:World) (h0:0 ≤ x) (h1:x ≤ 18446744073709551615) :
    Calls Try.prog 94 #[.int .u64 x] w fun e w'=>e = .returned (.int .i64 (Lib.bitLen x.toNat)) ∧ w' = w:=Any.bits_Len Try.lays125 x w h0 h1
def Try.lays106_ren:Go.Shelf.Ren:=⟨fun | 106=>101 | 213=>121 | 265=>133 | n=>n,fun | 9=>9 | 3=>3 | n=>n,fun | n=>n⟩
theorem Try.lays106:Go.Proofs.Lays.n106 Try.prog Try.lays106_ren:={
  mixed:=by kernel_rfl
  f106:=Try.func101.trans (congrArg some (by kernel_rfl))
  f213:=Try.func121.trans (congrArg some (by kernel_rfl))
  f265:=Try.func133.trans (congrArg some (by kernel_rfl))
  t3:=Try.underlying3
  a3:=Try.isAgg3
  z3:=Try.sizeOf3
  v3:=Try.zeroValue3
  t9:=Try.underlying9
  a9:=Try.isAgg9
  z9:=Try.sizeOf9
  v9:=Try.zeroValue9 }
open Go.RowKit in
/-- strings.Compare: "Compare returns an integer comparing two strings lexicographically. The result will be 0 if a == b, -1 if a < b, and +1 if a > b.": IT RETURNS 'Lib.compareBytes a b';the world is as it was. (LAID: no walk: one application.) -/
theorem Try.strings_Compare (a b:ByteArray) (w:World) :
    Calls Try.prog 101 #[.string a,.string b] w fun e w'=>e = .returned (.int .i64 (Lib.compareBytes a.data.toList b.data.toList)) ∧ w' = w:=Any.strings_Compare Try.lays106 a b w
def Try.lays217_ren:Go.Shelf.Ren:=⟨fun | 217=>134 | 266=>143 | n=>n,fun | 9=>9 | 5=>5 | 3=>3 | n=>n,fun | n=>n⟩
theorem Try.lays217:Go.Proofs.Lays.n217 Try.prog Try.lays217_ren:={
  mixed:=by kernel_rfl
  f217:=Try.func134.trans (congrArg some (by kernel_rfl))
  f266:=Try.func143.trans (congrArg some (by kernel_rfl))
  t3:=Try.underlying3
  a3:=Try.isAgg3
  z3:=Try.sizeOf3
  v3:=Try.zeroValue3
  t5:=Try.underlying5
  a5:=Try.isAgg5
  z5:=Try.sizeOf5
  v5:=Try.zeroValue5
  t9:=Try.underlying9
  a9:=Try.isAgg9
  z9:=Try.sizeOf9
  v9:=Try.zeroValue9 }
open Go.RowKit Go.Lib in
/-- internal/stringslite.IndexByte (what strings.IndexByte calls): IT RETURNS 'Lib.indexByte s c';the world is as it was. (LAID: no walk: one application.) -/
theorem Try.stringslite_IndexByte (s:ByteArray) (c:Int) (w:World) :
    Calls Try.prog 134 #[.string s,.int .u8 c] w fun e w'=>e = .returned (.int .i64 (Lib.indexByte s.data.toList c.toNat.toUInt8)) ∧ w' = w:=Any.stringslite_IndexByte Try.lays217 s c w
def Try.lays144_ren:Go.Shelf.Ren:=⟨fun | 144=>92 | 143=>115 | 219=>122 | 217=>134 | 225=>135 | 224=>136 | 267=>137 | 266=>143 | 314=>144 | n=>n,fun | 9=>9 | 4=>4 | 3=>3 | 5=>5 | 46=>91 | 146=>158 | 51=>134 | n=>n,fun | 1=>0 | n=>n⟩
theorem Try.lays144:Go.Proofs.Lays.n144 Try.prog Try.lays144_ren:={
  mixed:=by kernel_rfl
  f143:=Try.func115.trans (congrArg some (by kernel_rfl))
  f144:=Try.func92.trans (congrArg some (by kernel_rfl))
  f217:=Try.func134.trans (congrArg some (by kernel_rfl))
  f219:=Try.func122.trans (congrArg some (by kernel_rfl))
  f224:=Try.func136.trans (congrArg some (by kernel_rfl))
  f225:=Try.func135.trans (congrArg some (by kernel_rfl))
  f266:=Try.func143.trans (congrArg some (by kernel_rfl))
  f267:=Try.func137.trans (congrArg some (by kernel_rfl))
  f314:=Try.func144.trans (congrArg some (by kernel_rfl))
  t3:=Try.underlying3
  a3:=Try.isAgg3
  z3:=Try.sizeOf3
  v3:=Try.zeroValue3
  t4:=Try.underlying4
  a4:=Try.isAgg4
  z4:=Try.sizeOf4
  v4:=Try.zeroValue4
  t5:=Try.underlying5
  a5:=Try.isAgg5
  z5:=Try.sizeOf5
  v5:=Try.zeroValue5
  t9:=Try.underlying9
  a9:=Try.isAgg9
  z9:=Try.sizeOf9
  v9:=Try.zeroValue9
  t46:=Try.underlying91
  a46:=Try.isAgg91
  z46:=Try.sizeOf91
  v46:=Try.zeroValue91
  t51:=Try.underlying134
  a51:=Try.isAgg134
  z51:=Try.sizeOf134
  v51:=Try.zeroValue134
  t146:=Try.underlying158
  a146:=Try.isAgg158
  z146:=Try.sizeOf158
  v146:=Try.zeroValue158
  g1:=by kernel_rfl }
open Go.RowKit Go.Lib in
/-- strings.Contains: "Contains reports whether substr is within s.": AT A substr OF ONE BYTE c: IT RETURNS 'decide (0 ≤ Lib.indexByte s c)';the world is as it was. (LAID: no walk: one application.) -/
theorem Try.strings_Contains_one (s:ByteArray) (c:UInt8) (w:World) :
    Calls Try.prog 92 #[.string s,.string ⟨#[c]⟩] w fun e w'=>e = .returned (.bool (decide (0 ≤ Lib.indexByte s.data.toList c))) ∧ w' = w:=Any.strings_Contains_one Try.lays144 s c w
open Go.RowKit Go.Lib in
/-- strings.Contains: "Contains reports whether substr is within s.": IT RETURNS 'Lib.contains s substr';the world is as it was. (LAID: no walk: one application.) -/
theorem Try.strings_Contains (s sub:ByteArray) (m:Int) (w:World) (hs:s.size < 4294967281) (hm:w.cell? ⟨0,0,none⟩ = some (.int .i64 m)) :
    Calls Try.prog 92 #[.string s,.string sub] w fun e w'=>e = .returned (.bool (Lib.contains s.data.toList sub.data.toList)) ∧ w' = w:=Any.strings_Contains Try.lays144 s sub m w hs hm
def Try.laysGw17_ren:Go.Shelf.Ren:=⟨fun | 17=>95 | 15=>118 | 20=>123 | n=>n,fun | 9=>9 | 23=>120 | 4=>4 | 3=>3 | 0=>0 | 21=>21 | n=>n,fun | n=>n⟩
theorem Try.laysGw17:Go.Proofs.LaysGw.n17 Try.prog Try.laysGw17_ren:={
  mixed:=by kernel_rfl
  f15:=Try.func118.trans (congrArg some (by kernel_rfl))
  f17:=Try.func95.trans (congrArg some (by kernel_rfl))
  f20:=Try.func123.trans (congrArg some (by kernel_rfl))
  t0:=Try.underlying0
  a0:=Try.isAgg0
  z0:=Try.sizeOf0
  v0:=Try.zeroValue0
  i0:=by kernel_rfl
  t3:=Try.underlying3
  a3:=Try.isAgg3
  z3:=Try.sizeOf3
  v3:=Try.zeroValue3
  i3:=by kernel_rfl
  t4:=Try.underlying4
  a4:=Try.isAgg4
  z4:=Try.sizeOf4
  v4:=Try.zeroValue4
  i4:=by kernel_rfl
  t9:=Try.underlying9
  a9:=Try.isAgg9
  z9:=Try.sizeOf9
  v9:=Try.zeroValue9
  i9:=by kernel_rfl
  t21:=Try.underlying21
  a21:=Try.isAgg21
  z21:=Try.sizeOf21
  v21:=Try.zeroValue21
  i21:=by kernel_rfl
  t23:=Try.underlying120
  a23:=Try.isAgg120
  z23:=Try.sizeOf120
  v23:=Try.zeroValue120
  i23:=by kernel_rfl }
open Go.RowKit Go.Lib in
theorem Try.strings_ContainsFunc_grows (g:Nat) (lb:Array Value) (eg:∀ args w,(callFunc g args).run Try.prog w = .ok (.enter g args) w) (p:Nat → Bool) (s:ByteArray) (w:World) (hp:PredGrows Try.prog g lb p w) :
    Calls Try.prog 95 #[.string s,.func (.func g) #[] lb] w fun e w'=>e = .returned (.bool (decide (0 ≤ Lib.idxFunc p true s))) ∧ Below w.heap.size w w':=Any.strings_ContainsFunc_grows Try.laysGw17 g lb eg p s w hp
end Go.Proofs
namespace Go.Proofs.Ythpahlkhiknofaa.G
open Go Go.RowKit Go.Proofs.YthpahlkhiknofaaW.PrintWords
def cmpN (x y:List Nat):Int:=if Va.lessN x y then -1 else if Va.lessN y x then 1 else 0
def hasN (c:Nat):List Nat → Bool
  | []=>false
  | a :: l=>Nat.beq a c || hasN c l
theorem lt_of {a b:Nat} (ha:a < 256) (hb:b < 256):(UInt8.ofNat a < UInt8.ofNat b) ↔ a < b:=by
  rw [UInt8.lt_iff_toNat_lt,UInt8.toNat_ofNat_of_lt' (by simpa using ha),UInt8.toNat_ofNat_of_lt' (by simpa using hb)]
theorem eq_of {a b:Nat} (ha:a < 256) (hb:b < 256):(UInt8.ofNat a = UInt8.ofNat b) ↔ a = b:=by
  rw [← UInt8.toNat_inj,UInt8.toNat_ofNat_of_lt' (by simpa using ha),UInt8.toNat_ofNat_of_lt' (by simpa using hb)]
theorem cmpN_eq:∀ {x y:List Nat},(∀ n ∈ x,n < 256) → (∀ n ∈ y,n < 256) → Lib.compareBytes (x.map UInt8.ofNat) (y.map UInt8.ofNat) = cmpN x y
  | [],[],_,_=>rfl
  | [],_ :: _,_,_=>rfl
  | _ :: _,[],_,_=>rfl
  | a :: x,b :: y,hx,hy=>by
    have ha:=hx a (by simp)
    have hb:=hy b (by simp)
    have ih:=cmpN_eq (x:=x) (y:=y) (fun n hn=>hx n (List.mem_cons_of_mem _ hn)) (fun n hn=>hy n (List.mem_cons_of_mem _ hn))
    rw [List.map_cons,List.map_cons,Lib.compareBytes,ih]
    unfold cmpN
    simp only [Va.lessN,lt_of ha hb,lt_of hb ha,Nat.blt_eq,Bool.or_eq_true,Bool.and_eq_true,Nat.beq_eq]
    by_cases h1:a < b
    · rw [if_pos h1,if_pos (.inl h1)]
    · by_cases h2:b < a
      · rw [if_neg h1,if_pos h2,if_neg (by omega),if_pos (.inl h2)]
      · have e:a = b:=by omega
        subst e
        rw [if_neg h1,if_neg h2]
        simp [h1]
theorem hasN_eq {c:Nat} (hc:c < 256):∀ {l:List Nat},(∀ n ∈ l,n < 256) → decide (0 ≤ Lib.indexByte (l.map UInt8.ofNat) (UInt8.ofNat c)) = hasN c l
  | [],_=>rfl
  | a :: l,h=>by
    have ha:=h a (by simp)
    have ih:=hasN_eq hc (l:=l) fun n hn=>h n (List.mem_cons_of_mem _ hn)
    rw [List.map_cons,Lib.indexByte,hasN,← ih]
    by_cases e:a = c
    · subst e;simp
    · have e2:(UInt8.ofNat a == UInt8.ofNat c) = false:=by
        rw [beq_eq_false_iff_ne]
        exact fun h=>e ((eq_of ha hc).1 h)
      have e3:Nat.beq a c = false:=by
        cases h:Nat.beq a c
        · rfl
        · exact absurd (Nat.eq_of_beq_eq_true h) e
      rw [e2,e3,Bool.false_or,if_neg (by decide)]
      have:=Lib.indexByte_ge (l.map UInt8.ofNat) (UInt8.ofNat c)
      by_cases h:Lib.indexByte (l.map UInt8.ofNat) (UInt8.ofNat c) = -1
      · rw [h];decide
      · rw [if_neg (by simpa using h)]
        congr 1
        exact propext ⟨fun _=>by omega,fun _=>by omega⟩
def awakeE (f:Nat) (l:List Va.V):Option Va.V:=match f,l with
  | 101,[.s x,.s y]=>some (.i .i64 (cmpN x y))
  | 92,[.s x,.s [c]]=>some (.b (hasN c x))
  | _,_=>none
theorem awakeE_ok:Va.ExtOK Try.prog awakeE:=fun {f l v m args} h hl=>by
  unfold awakeE at h
  obtain ⟨r⟩:=args
  have h0:Va.RVs m l r:=hl
  clear hl
  left
  split at h <;> simp at h
  · rename_i x y
    subst h
    cases h0 with
    | cons a h1=>cases h1 with
      | cons b h2 =>
        cases h2
        cases a with | s ha=>cases b with | s hb =>
        refine ⟨Try.f101,by kernel_rfl,by kernel_rfl,fun w=>(Try.strings_Compare (Va.bytesV x) (Va.bytesV y) w).mono fun e w' he=>?_⟩
        obtain ⟨rfl,rfl⟩:=he
        refine ⟨_,rfl,?_,Below.refl _ _⟩
        have e:Lib.compareBytes (Va.bytesV x).data.toList (Va.bytesV y).data.toList = cmpN x y:=by
          have:=cmpN_eq ha hb
          simpa [Va.bytesV] using this
        rw [e];exact .i
  · rename_i x c
    subst h
    cases h0 with
    | cons a h1=>cases h1 with
      | cons b h2 =>
        cases h2
        cases a with | s ha=>cases b with | s hb =>
        have hc:c < 256:=hb c (by simp)
        refine ⟨Try.f92,by kernel_rfl,by kernel_rfl,fun w=>(Try.strings_Contains_one (Va.bytesV x) (UInt8.ofNat c) w).mono fun e w' he=>?_⟩
        obtain ⟨rfl,rfl⟩:=he
        refine ⟨_,rfl,?_,Below.refl _ _⟩
        have e:decide (0 ≤ Lib.indexByte (Va.bytesV x).data.toList (UInt8.ofNat c)) = hasN c x:=by
          have h2:(Va.bytesV x).data.toList = x.map UInt8.ofNat:=by simp [Va.bytesV]
          rw [h2]
          exact hasN_eq hc ha
        rw [e];exact .b
set_option maxRecDepth 1000000 in
theorem awake_run:Va.boolG (Va.callG Try.prog awakeE 40 ⟨.e,0⟩ 22 []) = some true:=by kernel_rfl
set_option maxRecDepth 1000000 in
theorem awake_seen (w:World):Calls Try.prog 22 #[] w fun e w'=>e = .returned (.bool true) ∧ Below w.heap.size w w' :=
  Va.closed_call (d:=40) awakeE_ok (by kernel_rfl) (by kernel_rfl) awake_run (fn:=Try.f22) (by kernel_rfl) (by kernel_rfl) w
def numnahlaw01_awake.f:Option (Bool):=some true
theorem numnahlaw01_awake.calls (r:Bool) (w:World) (h:numnahlaw01_awake.f = some r):Calls Try.prog 22 #[] w fun e w'=>e = .returned (.bool r) ∧ Below w.heap.size w w':=by
  cases h
  exact awake_seen w
end Go.Proofs.Ythpahlkhiknofaa.G
namespace Go.Proofs.Ythpahlkhiknofaa.P
open Go Go.RowKit Go.Proofs.Ythpahlkhiknofaa.M
open Go.Proofs.YthpahlkhiknofaaW.PrintWords Go.Proofs.YthpahlkhiknofaaW.PrintMore
theorem wrap_id {x:Int} (h0:-9223372036854775808 ≤ x) (h1:x ≤ 9223372036854775807):wrap64 x = x:=by unfold wrap64;omega
theorem wrap_succ {i:Nat} (h:i < 9223372036854775807):wrap64 ((i:Int) + 1) = ((i + 1:Nat):Int):=by unfold wrap64;omega
theorem shl_one {n:Nat} (h:n < 63):shl .i64 1 (n:Int) = ((2 ^ n:Nat):Int):=by
  unfold shl
  rw [Int.one_mul,Int.toNat_natCast,show min n IntKind.i64.bits = n from Nat.min_eq_left (by show n ≤ 64;omega)]
  exact i64_shl_one n h
theorem shr_nat {p i:Nat} (h:i ≤ 64):shr .i64 (p:Int) (i:Int) = ((p >>> i:Nat):Int):=by
  unfold shr
  rw [Int.toNat_natCast,show min i IntKind.i64.bits = i from Nat.min_eq_left h,div_two_pow,Nat.shiftRight_eq_div_pow]
theorem digit {p i:Nat} (h:i ≤ 64):Int.tmod (shr .i64 (p:Int) (i:Int)) 2 = if p.testBit i then 1 else 0:=by
  rw [shr_nat h]
  have e:Int.tmod ((p >>> i:Nat):Int) 2 = (((p >>> i) % 2:Nat):Int):=by
    rw [Int.tmod_eq_emod_of_nonneg (Int.natCast_nonneg _)];rfl
  rw [e,Nat.testBit_eq_decide_div_mod_eq,← Nat.shiftRight_eq_div_pow]
  rcases Nat.mod_two_eq_zero_or_one (p >>> i) with h | h <;> simp [h]
theorem bt_get {s:ByteArray} {i:Nat} (h:i < s.size):bt s (i:Int) = ((s[i]).toNat:Int):=by unfold bt;simp [h]
theorem rd_get {l:List Int} {i:Nat} (h:i < l.length):rd l (i:Int) = l[i]:=by unfold rd;simp [h]
theorem loop_len (b:ByteArray):∀ d i (r:List UInt8),i + d = b.size → (ByteArray.toList.loop b i r).length = r.length + d:=by
  intro d
  induction d with
  | zero =>
    intro i r hi
    rw [ByteArray.toList.loop,if_neg (by omega),List.length_reverse];rfl
  | succ d ih =>
    intro i r hi
    rw [ByteArray.toList.loop,if_pos (by omega),ih (i + 1) _ (by omega),List.length_cons];omega
theorem toList_len (b:ByteArray):b.toList.length = b.size:=by
  unfold ByteArray.toList
  rw [loop_len b b.size 0 [] (by omega)];simp
/-- All positions from one on. -/
def allF (P:Nat → Bool):Nat → Nat → Bool
  | 0,_=>true
  | d + 1,i=>P i && allF P d (i + 1)
theorem allF_iff (P:Nat → Bool):∀ d i,allF P d i = true ↔ ∀ j,i ≤ j → j < i + d → P j = true
  | 0,i=>⟨fun _ j h1 h2=>by omega,fun _=>rfl⟩
  | d + 1,i=>by
    rw [allF,Bool.and_eq_true,allF_iff P d (i + 1)]
    constructor
    · rintro ⟨h1,h2⟩ j h3 h4
      by_cases e:j = i
      · rw [e];exact h1
      · exact h2 j (by omega) (by omega)
    · intro h
      exact ⟨h i (by omega) (by omega),fun j h1 h2=>h j (by omega) (by omega)⟩
theorem allF_congr {P Q:Nat → Bool}:∀ {d i},(∀ j,i ≤ j → j < i + d → P j = Q j) → allF P d i = allF Q d i
  | 0,_,_=>rfl
  | d + 1,i,h=>by rw [allF,allF,h i (by omega) (by omega),allF_congr fun j h1 h2=>h j (by omega) (by omega)]
def isC (c:ByteArray) (i:Nat):Bool:=decide (bt c (i:Int) = 48 ∨ bt c (i:Int) = 49 ∨ bt c (i:Int) = 45)
def okC (c:ByteArray):Bool:=allF (isC c) c.size 0
def careN (c:ByteArray):Nat → Nat
  | 0=>0
  | i + 1=>if bt c (i:Int) = 45 then careN c i else careN c i ||| 2 ^ i
def valN (c:ByteArray):Nat → Nat
  | 0=>0
  | i + 1=>if bt c (i:Int) = 49 then valN c i ||| 2 ^ i else valN c i
theorem careN_lt (c:ByteArray):∀ k,careN c k < 2 ^ k
  | 0=>by show 0 < 2 ^ 0;decide
  | k + 1=>by
    have h:=careN_lt c k
    have h2:2 ^ k < 2 ^ (k + 1):=Nat.pow_lt_pow_right (by decide) (by omega)
    rw [careN]
    split
    · omega
    · exact Nat.or_lt_two_pow (by omega) h2
theorem valN_lt (c:ByteArray):∀ k,valN c k < 2 ^ k
  | 0=>by show 0 < 2 ^ 0;decide
  | k + 1=>by
    have h:=valN_lt c k
    have h2:2 ^ k < 2 ^ (k + 1):=Nat.pow_lt_pow_right (by decide) (by omega)
    rw [valN]
    split
    · exact Nat.or_lt_two_pow (by omega) h2
    · omega
theorem careN_bit (c:ByteArray) (i:Nat):∀ k,(careN c k).testBit i = (decide (i < k) && decide (bt c (i:Int) ≠ 45))
  | 0=>by simp [careN]
  | k + 1=>by
    have h:=careN_bit c i k
    rw [careN]
    by_cases e:i = k
    · subst e
      split
      · rename_i h1;rw [h];simp [h1]
      · rename_i h1;rw [Nat.testBit_or,h,Nat.testBit_two_pow_self];simp [h1]
    · have h2:decide (i < k + 1) = decide (i < k):=by congr 1;exact propext ⟨fun _=>by omega,fun _=>by omega⟩
      rw [h2]
      split
      · exact h
      · rw [Nat.testBit_or,h,Nat.testBit_two_pow_of_ne (by omega),Bool.or_false]
theorem valN_bit (c:ByteArray) (i:Nat):∀ k,(valN c k).testBit i = (decide (i < k) && decide (bt c (i:Int) = 49))
  | 0=>by simp [valN]
  | k + 1=>by
    have h:=valN_bit c i k
    rw [valN]
    by_cases e:i = k
    · subst e
      split
      · rename_i h1;rw [Nat.testBit_or,h,Nat.testBit_two_pow_self];simp [h1]
      · rename_i h1;rw [h];simp [h1]
    · have h2:decide (i < k + 1) = decide (i < k):=by congr 1;exact propext ⟨fun _=>by omega,fun _=>by omega⟩
      rw [h2]
      split
      · rw [Nat.testBit_or,h,Nat.testBit_two_pow_of_ne (by omega),Bool.or_false]
      · exact h
/-- Whether a point agrees with one character of a cube. -/
def atC (c:ByteArray) (p i:Nat):Bool:=decide (bt c (i:Int) = 45) || (decide (bt c (i:Int) = 49) == p.testBit i)
def inC (c:ByteArray) (p:Nat):Bool:=allF (atC c p) c.size 0
theorem has_iff {c:ByteArray} {p:Nat} (h:okC c = true):(p &&& careN c c.size == valN c c.size) = inC c p:=by
  rw [Bool.eq_iff_iff,beq_iff_eq]
  unfold inC
  rw [allF_iff]
  have hc:=(allF_iff _ _ _).1 h
  constructor
  · intro e j _ hj
    have hcj:=hc j (by omega) hj
    have e2:(p &&& careN c c.size).testBit j = (valN c c.size).testBit j:=by rw [e]
    rw [Nat.testBit_and,careN_bit,valN_bit] at e2
    unfold isC at hcj
    simp only [decide_eq_true_eq] at hcj
    have hj':j < c.size:=by omega
    unfold atC
    rcases hcj with h1 | h1 | h1 <;> simp [h1,hj'] at e2 ⊢ <;> exact e2
  · intro h2
    apply Nat.eq_of_testBit_eq
    intro i
    rw [Nat.testBit_and,careN_bit,valN_bit]
    by_cases hi:i < c.size
    · have h3:=h2 i (by omega) (by omega)
      have hci:=hc i (by omega) (by omega)
      unfold isC at hci
      simp only [decide_eq_true_eq] at hci
      unfold atC at h3
      rcases hci with h1 | h1 | h1 <;> simp [h1,hi] at h3 ⊢ <;> exact h3
    · simp [hi]
end Go.Proofs.Ythpahlkhiknofaa.P
