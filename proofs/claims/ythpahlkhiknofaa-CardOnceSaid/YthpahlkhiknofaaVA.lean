/- An interpreter of the program's own memory, proved sound: a call that it runs does as it says. No conditions. -/
import Derived.Orders
import Derived.Tactics
import Derived.KernelRfl
import Derived.Below
import Derived.Deep.MidRow
import Derived.Deep.AppendSrc
import Derived.Laws.Slices
import Derived.RowKit
import Derived.Laws.Strings
import Derived.Laws.Tables
import Derived.Laws.Small
import Derived.Laws.StructEq
import Derived.Laws.MakeOwn
import Derived.Laws.BytesString
import Derived.Deep.Upon
set_option linter.unusedVariables false
set_option linter.unusedSimpArgs false
namespace Go.Proofs.Ythpahlkhiknofaa.Va
open Go Go.RowKit
section
inductive V where
 | i (k:IntKind) (n:Int)
 | b (x:Bool)
 | s (l:List Nat)
 | np
 | p (id off:Nat)
 | ns
 | sl (id off len sz:Nat)
 | m (id:Nat)
 | nm
 | f (fn:Nat) (first cap:List V)
 | nf
 | a (l:List V)
 | t (l:List V)
 deriving Inhabited
inductive O where
 | row (ap:Bool) (l:List V)
 | map (l:List (V × V))
 | it (l:List Nat) (pos:Nat)
inductive T where
 | e
 | n (l:T) (v:Option O) (r:T)
def natK {β:Type} (n:Nat) (k:Nat → β):β:=match n with
 | 0=>k 0
 | m + 1=>k (m + 1)
def intK {β:Type} (n:Int) (k:Int → β):β:=match n with
 | .ofNat a=>natK a fun a=>k (.ofNat a)
 | .negSucc a=>natK a fun a=>k (.negSucc a)
@[simp] theorem natK_eq {β:Type} (n:Nat) (k:Nat → β):natK n k = k n:=by cases n <;> rfl
@[simp] theorem intK_eq {β:Type} (n:Int) (k:Int → β):intK n k = k n:=by cases n <;> simp [intK]
def bit (id d:Nat):Bool:=Nat.beq (Nat.land (Nat.shiftRight id d) 1) 1
noncomputable def T.get (id:Nat) (d:Nat):T → Option O :=
 Nat.rec (fun t=>T.rec none (fun _ v _ _ _=>v) t) (fun d ih t=>T.rec none (fun l _ r _ _=>Bool.rec (ih l) (ih r) (bit id d)) t) d
noncomputable def T.set (id:Nat) (v:Option O) (d:Nat):T → T :=
 Nat.rec (fun t=>T.rec (.n .e v .e) (fun l _ r _ _=>.n l v r) t)
  (fun d ih t=>T.rec (Bool.rec (.n (ih .e) none .e) (.n .e none (ih .e)) (bit id d)) (fun l x r _ _=>Bool.rec (.n (ih l) x r) (.n l x (ih r)) (bit id d)) t) d
noncomputable def T.setK {β:Type} (id:Nat) (v:Option O) (d:Nat):T → (T → β) → β :=
 Nat.rec (fun t k=>T.rec (k (.n .e v .e)) (fun l _ r _ _=>k (.n l v r)) t)
  (fun d ih t k=>T.rec (Bool.rec (ih .e fun l=>k (.n l none .e)) (ih .e fun r=>k (.n .e none r)) (bit id d))
   (fun l x r _ _=>Bool.rec (ih l fun l=>k (.n l x r)) (ih r fun r=>k (.n l x r)) (bit id d)) t) d
theorem T.setK_eq {β:Type} (id:Nat) (v:Option O):∀ (d:Nat) (t:T) (k:T → β),T.setK id v d t k = k (T.set id v d t)
 | 0,.e,_=>rfl
 | 0,.n ..,_=>rfl
 | d + 1,.e,k=>by
  show Bool.rec (T.setK id v d .e fun l=>k (.n l none .e)) (T.setK id v d .e fun r=>k (.n .e none r)) (bit id d) = k (Bool.rec (.n (T.set id v d .e) none .e) (.n .e none (T.set id v d .e)) (bit id d))
  cases bit id d <;> simp [T.setK_eq id v d]
 | d + 1,.n l x r,k=>by
  show Bool.rec (T.setK id v d l fun l=>k (.n l x r)) (T.setK id v d r fun r=>k (.n l x r)) (bit id d) = k (Bool.rec (.n (T.set id v d l) x r) (.n l x (T.set id v d r)) (bit id d))
  cases bit id d <;> simp [T.setK_eq id v d]
abbrev H:=T
noncomputable def H.obj (h:H) (id:Nat):Option O:=if Nat.blt id 2048 then T.get id 11 h else none
noncomputable def H.upd (h:H) (id:Nat) (o:Option O):H:=T.set id o 11 h
noncomputable def H.updK {β:Type} (h:H) (id:Nat) (o:Option O) (k:H → β):β:=T.setK id o 11 h k
@[simp] theorem H.updK_eq {β:Type} (h:H) (id:Nat) (o:Option O) (k:H → β):h.updK id o k = k (h.upd id o):=T.setK_eq ..
structure St where
 h:H
 nx:Nat
def bytesN:List UInt8 → List Nat
 | []=>[]
 | x :: r=>x.toNat :: bytesN r
def ofAtom:Value → Option V
 | .int k n=>intK n fun n=>some (.i k n)
 | .bool x=>some (.b x)
 | .string s=>some (.s (bytesN s.data.toList))
 | .pointer none=>some .np
 | .slice none 0 0=>some .ns
 | .map none=>some .nm
 | .func (.func f) ⟨[]⟩ ⟨[]⟩=>some (.f f [] [])
 | .nilFunc=>some .nf
 | _=>none
def atoms:List Value → Option (List V)
 | []=>some []
 | v :: vs=>match ofAtom v,atoms vs with
  | some x,some xs=>some (x :: xs)
  | _,_=>none
def ofValue:Value → Option V
 | .agg cs=>match atoms cs.toList with | some l=>some (.a l) | none=>none
 | .tuple ⟨[]⟩=>some (.t [])
 | v=>ofAtom v
abbrev Tm:=List V
def und:V:=.t []
noncomputable def nth (l:List V):Nat → V :=
 List.rec (fun _=>und) (fun x _ ih i=>Nat.rec x (fun n _=>ih n) i) l
noncomputable def ev (t:Tm):Operand → Option V
 | .tmp i=>some (nth t i)
 | .const v=>ofValue v
 | .global _=>none
 | .func f=>some (.f f [] [])
noncomputable def evs (t:Tm):List Operand → Option (List V)
 | []=>some []
 | x :: xs=>match ev t x,evs t xs with
  | some v,some vs=>some (v :: vs)
  | _,_=>none
def V.cells:V → Option (List V)
 | .a l=>some l
 | .t _=>none
 | x=>some [x]
def isAgg (P:Program) (t:TypeId):Option Bool :=
 match P.underlying t with
 | some (.struct _) | some (.array _ _)=>some true
 | some _=>some false
 | none=>none
def sz (P:Program) (t:TypeId):Option Nat:=match P.info? t with | some i=>some i.size | none=>none
def small (P:Program) (t:TypeId):Bool:=match P.info? t with | some i=>Nat.ble i.bytes 1000000 | none=>false
def zeroV (P:Program) (t:TypeId):Option V :=
 match P.info? t with
 | some i=>match i.zero with
  | some z=>ofValue z
  | none=>none
 | none=>none
def zeroC (P:Program) (t:TypeId):Option (List V):=match zeroV P t with | some v=>v.cells | none=>none
def takeN:Nat → List V → Option (List V)
 | 0,_=>some []
 | _ + 1,[]=>none
 | n + 1,x :: r=>match takeN n r with | some l=>some (x :: l) | none=>none
def dropN:Nat → List V → List V
 | 0,l=>l
 | _ + 1,[]=>[]
 | n + 1,_ :: r=>dropN n r
def seg (l:List V) (off n:Nat):Option (List V):=takeN n (dropN off l)
def getN:List V → Nat → Option V
 | [],_=>none
 | x :: _,0=>some x
 | _ :: r,n + 1=>getN r n
def partV (P:Program) (t:TypeId) (cs:List V) (off:Nat):Option V :=
 match isAgg P t with
 | some true=>match sz P t with
  | some n=>match seg cs off n with | some l=>some (.a l) | none=>none
  | none=>none
 | some false=>getN cs off
 | none=>none
def over:List V → List V → Option (List V)
 | l,[]=>some l
 | [],_ :: _=>none
 | _ :: l,x :: xs=>match over l xs with | some r=>some (x :: r) | none=>none
def put:Nat → List V → List V → Option (List V)
 | 0,l,xs=>over l xs
 | _ + 1,[],_=>none
 | n + 1,y :: l,xs=>match put n l xs with | some r=>some (y :: r) | none=>none
noncomputable def H.get (h:H) (id:Nat):Option (List V):=match h.obj id with | some (.row _ l)=>some l | _=>none
noncomputable def H.load (P:Program) (h:H) (t:TypeId) (id off:Nat):Option V :=
 match h.get id with
 | none=>none
 | some o=>partV P t o off
noncomputable def storeV (P:Program) (s:St) (t:TypeId) (id off:Nat) (v:V):Option (V × St) :=
 match s.h.obj id,v.cells,sz P t with
 | some (.row ap o),some cs,some n=>if Nat.beq cs.length n then (match put off o cs with
  | some r=>s.h.updK id (some (.row ap r)) fun h=>some (und,⟨h,s.nx⟩)
  | none=>none) else none
 | _,_,_=>none
def lim:IntKind → Nat
 | .i8=>128 | .i16=>32768 | .i32=>2147483648 | .i64=>9223372036854775808
 | .u8=>256 | .u16=>65536 | .u32=>4294967296 | .u64=>18446744073709551616
def wrapQ (k:IntKind) (n:Int):Int:=match n with
 | .ofNat a=>if Nat.blt a (lim k) then .ofNat a else k.wrap (.ofNat a)
 | .negSucc a=>if k.signed && Nat.blt a (lim k) then .negSucc a else k.wrap (.negSucc a)
def kEq:IntKind → IntKind → Bool
 | .i8,.i8 | .i16,.i16 | .i32,.i32 | .i64,.i64 | .u8,.u8 | .u16,.u16 | .u32,.u32 | .u64,.u64=>true
 | _,_=>false
def ltI:Int → Int → Bool
 | .ofNat a,.ofNat b=>Nat.blt a b
 | .ofNat _,.negSucc _=>false
 | .negSucc _,.ofNat _=>true
 | .negSucc a,.negSucc b=>Nat.blt b a
def eqI:Int → Int → Bool
 | .ofNat a,.ofNat b=>Nat.beq a b
 | .negSucc a,.negSucc b=>Nat.beq a b
 | _,_=>false
def mkI (k:IntKind) (n:Int):Option V:=intK n fun n=>some (.i k n)
def bitQ (k:IntKind) (x y:Int) (g:Nat → Nat → Nat) (slow:Int):Option V :=
 match x,y with
 | .ofNat a,.ofNat b=>if Nat.blt a (lim k) && Nat.blt b (lim k) then mkI k (.ofNat (g a b)) else mkI k slow
 | _,_=>mkI k slow
def intOp (op:BinOp) (k:IntKind) (x y:Int):Option V :=
 match op with
 | .add=>mkI k (wrapQ k (Int.add x y))
 | .sub=>mkI k (wrapQ k (Int.sub x y))
 | .mul=>mkI k (wrapQ k (Int.mul x y))
 | .quo=>if eqI y 0 then none else mkI k (wrapQ k (x.tdiv y))
 | .rem=>if eqI y 0 then none else mkI k (x.tmod y)
 | .and=>bitQ k x y Nat.land (k.wrap (BitVec.ofInt k.bits x &&& BitVec.ofInt k.bits y).toNat)
 | .or=>bitQ k x y Nat.lor (k.wrap (BitVec.ofInt k.bits x ||| BitVec.ofInt k.bits y).toNat)
 | .xor=>bitQ k x y Nat.xor (k.wrap (BitVec.ofInt k.bits x ^^^ BitVec.ofInt k.bits y).toNat)
 | .andNot=>bitQ k x y (fun a b=>Nat.xor a (Nat.land a b)) (k.wrap (BitVec.ofInt k.bits x &&& ~~~ BitVec.ofInt k.bits y).toNat)
 | .eql=>some (.b (eqI x y))
 | .neq=>some (.b (!eqI x y))
 | .lss=>some (.b (ltI x y))
 | .leq=>some (.b (!ltI y x))
 | .gtr=>some (.b (ltI y x))
 | .geq=>some (.b (!ltI x y))
 | _=>none
def shiftOp (op:BinOp) (k:IntKind) (x y:Int):Option V :=
 match x,y with
 | .ofNat a,.ofNat b=>match op with
  | .shl=>mkI k (wrapQ k (.ofNat (Nat.shiftLeft a (Nat.min b k.bits))))
  | .shr=>mkI k (.ofNat (Nat.shiftRight a (Nat.min b k.bits)))
  | _=>none
 | .negSucc a,.ofNat b=>match op with
  | .shl=>mkI k (k.wrap (.negSucc a * 2 ^ (min b k.bits)))
  | .shr=>mkI k (Int.fdiv (.negSucc a) (2 ^ (min b k.bits)))
  | _=>none
 | _,_=>none
def lessN:List Nat → List Nat → Bool
 | _,[]=>false
 | [],_ :: _=>true
 | a :: x,b :: y=>Nat.blt a b || (Nat.beq a b && lessN x y)
def eqN:List Nat → List Nat → Bool
 | [],[]=>true
 | a :: x,b :: y=>Nat.beq a b && eqN x y
 | _,_=>false
def strOp (op:BinOp) (x y:List Nat):Option V :=
 match op with
 | .add=>if Nat.blt (x.length + y.length) 1000000 then some (.s (x ++ y)) else none
 | .eql=>some (.b (eqN x y))
 | .neq=>some (.b (!eqN x y))
 | .lss=>some (.b (lessN x y))
 | .leq=>some (.b (lessN x y || eqN x y))
 | .gtr=>some (.b (!(lessN x y || eqN x y)))
 | .geq=>some (.b (!lessN x y))
 | _=>none
def eqAtom (P:Program) (ty:TypeId) (x y:V):Option Bool :=
 match P.underlying ty with
 | some .bool=>match x,y with
  | .b a,.b b=>some (match a,b with | true,true=>true | false,false=>true | _,_=>false)
  | _,_=>none
 | some (.slice _)=>match x,y with
  | .ns,.ns=>some true
  | .sl _ _ _ _,.ns=>some false
  | .ns,.sl _ _ _ _=>some false
  | _,_=>none
 | some (.func _ _ _)=>match x,y with
  | .nf,.nf=>some true
  | .f _ _ _,.nf=>some false
  | .nf,.f _ _ _=>some false
  | _,_=>none
 | some (.pointer _)=>match x,y with
  | .np,.np=>some true
  | .p _ _,.np=>some false
  | .np,.p _ _=>some false
  | _,_=>none
 | _=>none
def eqInts:List V → List V → Option Bool
 | [],[]=>some true
 | .i k x :: xs,.i k' y :: ys=>if kEq k k' then (match eqInts xs ys with
  | some b=>some (eqI x y && b)
  | none=>none) else none
 | _,_=>none
def intsT (P:Program) (t:TypeId):Bool :=
 match P.underlying t with
 | some (.array _ e)=>(match P.underlying e with | some (.int _)=>true | _=>false) && (match sz P e with | some 1=>true | _=>false) && !P.eqGuardType P.depth t
 | _=>false
def lenT (P:Program) (t:TypeId):Nat :=
 match P.underlying t with
 | some (.array n _)=>n
 | _=>0
def eqFs (P:Program) (x y:List V):List Field → Option Bool
 | []=>some true
 | f :: r=>match f.name == "_", P.underlying f.type,getN x f.offset,getN y f.offset with
  | false,some (.int _),some (.i k a),some (.i k' b)=>if kEq k k' then (if eqI a b then eqFs P x y r else some false) else none
  | _,_,_,_=>none
def fieldsT (P:Program) (t:TypeId):Option (List Field) :=
 match P.underlying t with
 | some (.struct fs)=>if !P.stoodInHeld t && !P.eqGuardType P.depth t then some fs.toList else none
 | _=>none
def eqAggs (P:Program) (ty:TypeId) (x y:List V):Option Bool :=
 match fieldsT P ty with
 | some fs=>eqFs P x y fs
 | none=>if intsT P ty && Nat.beq x.length (lenT P ty) then eqInts x y else none
def binA (P:Program) (op:BinOp) (ty:TypeId) (x y:List V):Option V :=
 match op with
 | .eql=>match eqAggs P ty x y with | some r=>some (.b r) | none=>none
 | .neq=>match eqAggs P ty x y with | some r=>some (.b (!r)) | none=>none
 | _=>none
def binE (P:Program) (op:BinOp) (ty:TypeId) (x y:V):Option V :=
 match op with
 | .eql=>match eqAtom P ty x y with | some r=>some (.b r) | none=>none
 | .neq=>match eqAtom P ty x y with | some r=>some (.b (!r)) | none=>none
 | _=>none
def binI (op:BinOp) (k k':IntKind) (a b:Int):Option V :=
 match op with
 | .shl=>shiftOp op k a b
 | .shr=>shiftOp op k a b
 | _=>if kEq k k' then intOp op k a b else none
def binT (P:Program) (op:BinOp) (ty:TypeId) (x y:V):Option V :=
 match x,y with
 | .i k a,.i k' b=>binI op k k' a b
 | .s a,.s b=>strOp op a b
 | .a a,.a b=>binA P op ty a b
 | x,y=>binE P op ty x y
def unV (op:UnOp) (x:V):Option V :=
 match op,x with
 | .neg,.i k n=>mkI k (wrapQ k (Int.sub 0 n))
 | .not,.b x=>some (.b !x)
 | _,_=>none
def bound (x:Option V) (d y:Nat):Option Nat :=
 match x with
 | none=>some d
 | some (.i _ (.ofNat n))=>if Nat.ble n y then natK n fun n=>some n else none
 | _=>none
def byteL:List V → Option (List Nat)
 | []=>some []
 | .i .u8 (.ofNat n) :: r=>if Nat.blt n 256 then (match byteL r with | some l=>some (n :: l) | none=>none) else none
 | _=>none
def byteV:List Nat → List V
 | []=>[]
 | x :: r=>.i .u8 (.ofNat x) :: byteV r
noncomputable def more (h:H) (z:Nat):V → Option (Nat × List V)
 | .ns=>some (0,[])
 | .sl id off len z'=>if Nat.beq z' z then (match h.get id with
  | some o=>match seg o off (len * z) with | some l=>some (len,l) | none=>none
  | none=>none) else none
 | .s l=>if Nat.beq z 1 then some (l.length,byteV l) else none
 | _=>none
def dropS:Nat → List Nat → List Nat
 | 0,l=>l
 | _ + 1,[]=>[]
 | n + 1,_ :: r=>dropS n r
def takeS:Nat → List Nat → List Nat
 | 0,_=>[]
 | _ + 1,[]=>[]
 | n + 1,x :: r=>x :: takeS n r
def sliceV (P:Program) (t:TypeId) (x:V) (lo hi:Option V):Option V :=
 match P.underlying t,x with
 | some .string,.s s =>
  match bound hi s.length s.length with
  | none=>none
  | some hh=>match bound lo 0 hh with
   | none=>none
   | some l=>some (.s (dropS l (takeS hh s)))
 | some (.slice e),.ns =>
  match sz P e with
  | none=>none
  | some _=>match bound hi 0 0 with
   | none=>none
   | some hh=>match bound lo 0 hh with
    | none=>none
    | some _=>some .ns
 | some (.slice e),.sl id off len z =>
  match sz P e with
  | none=>none
  | some z'=>if Nat.beq z' z then
   match bound hi len len with
   | none=>none
   | some hh=>match bound lo 0 hh with
    | none=>none
    | some l=>natK (off + l * z) fun o=>natK (hh - l) fun n=>some (.sl id o n z)
   else none
 | _,_=>none
noncomputable def sliceA (P:Program) (h:H) (t:TypeId) (x:V) (lo hi:Option V):Option V :=
 match P.underlying t,x with
 | some (.array n e),.p id off =>
  match sz P e,h.get id with
  | some z,some o=>if Nat.ble (off + n * z) o.length then
   match bound hi n n with
   | none=>none
   | some hh=>match bound lo 0 hh with
    | none=>none
    | some l=>natK (off + l * z) fun q=>natK (hh - l) fun k=>some (.sl id q k z)
   else none
  | _,_=>none
 | _,_=>none
def fieldOf (P:Program) (t:TypeId) (f:Nat):Option Field :=
 match P.underlying t with
 | some (.struct fs)=>fs[f]?
 | _=>none
def indexA (P:Program) (t:TypeId) (x:V) (i:V):Option V :=
 match i with
 | .i _ (.ofNat n) =>
  match P.underlying t,x with
  | some (.slice e),.sl id off len z=>match sz P e with
   | some z'=>if Nat.beq z' z && Nat.blt n len then natK (off + n * z) fun o=>some (.p id o) else none
   | none=>none
  | some (.array len e),.p id off=>match sz P e with
   | some z=>if Nat.blt n len then natK (off + n * z) fun o=>some (.p id o) else none
   | none=>none
  | _,_=>none
 | _=>none
def getS:List Nat → Nat → Option Nat
 | [],_=>none
 | x :: _,0=>some x
 | _ :: r,n + 1=>getS r n
def indexV (P:Program) (t:TypeId) (x:V) (i:V):Option V :=
 match i with
 | .i _ (.ofNat n) =>
  match P.underlying t,x with
  | some (.array len e),.a cs=>match sz P e with
   | some z=>if Nat.blt n len then partV P e cs (n * z) else none
   | none=>none
  | some .string,.s s=>match getS s n with | some b=>some (.i .u8 (.ofNat b)) | none=>none
  | _,_=>none
 | _=>none
def fillC (place:Nat → Option (Nat × Nat)):List V → List (Nat × V) → Option (List V)
 | cells,[]=>some cells
 | cells,(i,v) :: r =>
  match place i,v.cells with
  | some (off,n),some cs=>if Nat.beq cs.length n then (match put off cells cs with
   | some cells'=>fillC place cells' r
   | none=>none) else none
  | _,_=>none
noncomputable def evp (t:Tm):List (Nat × Operand) → Option (List (Nat × V))
 | []=>some []
 | (i,x) :: r=>match ev t x,evp t r with
  | some v,some l=>some ((i,v) :: l)
  | _,_=>none
noncomputable def evo (t:Tm):Option Operand → Option (Option V)
 | none=>some none
 | some x=>match ev t x with | some v=>some (some v) | none=>none
def placesL (P:Program):List Field → Option (List (Nat × Nat))
 | []=>some []
 | f :: r=>match sz P f.type,placesL P r with
  | some n,some l=>some ((f.offset,n) :: l)
  | _,_=>none
def buildV (P:Program) (t:TypeId) (parts:List (Nat × V)):Option V :=
 match zeroC P t,P.underlying t with
 | some z,some (.struct fs)=>match placesL P fs.toList with
  | some pl=>match fillC (pl[·]?) z parts with
   | some l=>some (.a l)
   | none=>none
  | none=>none
 | some z,some (.array _ e)=>match sz P e with
  | some n=>match fillC (fun i=>some (i * n,n)) z parts with | some l=>some (.a l) | none=>none
  | none=>none
 | _,_=>none
def repC:Nat → List V → List V
 | 0,_=>[]
 | n + 1,l=>l ++ repC n l
noncomputable def newO {β:Type} (s:St) (o:O) (k:Nat → St → Option β):Option β :=
 if Nat.blt s.nx 2048 then s.h.updK s.nx (some o) fun h=>natK (s.nx + 1) fun n=>k s.nx ⟨h,n⟩ else none
def kindT (P:Program) (tx:TypeId) (y:V):Bool:=match P.underlying tx,y with
 | some (.slice _),.ns=>true
 | some (.slice _),.sl _ _ _ _=>true
 | some .string,.s _=>true
 | _,_=>false
noncomputable def appendN (s:St) (z n:Nat) (new:List V):Option (V × St) :=
 if Nat.beq n 0 then some (.ns,s) else newO s (.row true new) fun id s'=>some (.sl id 0 n z,s')
noncomputable def appendS (s:St) (z n:Nat) (new:List V) (id off len z':Nat):Option (V × St) :=
 if Nat.beq z' z && Nat.blt len 100000 then
  if Nat.beq n 0 then some (.sl id off len z',s) else
  match s.h.obj id with
  | some (.row true o)=>match seg o off (len * z) with
   | some old=>s.h.updK id none fun h =>
    newO ⟨h,s.nx⟩ (.row true (old ++ new)) fun id' s'=>natK (len + n) fun l=>some (.sl id' 0 l z,s')
   | none=>none
  | _=>none
 else none
noncomputable def appendV (P:Program) (s:St) (t tx:TypeId) (x y:V):Option (V × St) :=
 match P.underlying t with
 | some (.slice e)=>match sz P e,zeroC P e with
  | some z,some zc=>match more s.h z y with
   | none=>none
   | some (n,new)=>if Nat.blt n 100000 && small P e && kindT P tx y && Nat.beq zc.length z then
    match x with
    | .ns=>appendN s z n new
    | .sl id off len z'=>appendS s z n new id off len z'
    | _=>none else none
  | _,_=>none
 | _=>none
def lenV (P:Program) (ty:TypeId) (x:V):Option Nat :=
 match P.underlying ty,x with
 | some (.slice _),.ns=>some 0
 | some (.slice _),.sl _ _ n _=>some n
 | some .string,.s l=>some l.length
 | _,_=>none
def minmaxFrom (mx:Bool) (k:IntKind):Int → List V → Option V
 | a,[]=>some (.i k a)
 | a,.i k' b :: r=>if kEq k k' then minmaxFrom mx k (if (if mx then ltI a b else ltI b a) then b else a) r else none
 | _,_=>none
def minmax (mx:Bool):List V → Option V
 | .i k a :: r=>minmaxFrom mx k a r
 | _=>none
noncomputable def copyV (P:Program) (s:St) (t:TypeId) (x y:V):Option (V × St) :=
 match P.underlying t with
 | some (.slice e)=>match sz P e with
  | none=>none
  | some z=>match more s.h z y with
   | none=>none
   | some (n,new)=>match x with
    | .ns=>some (.i .i64 0,s)
    | .sl id off len z'=>if Nat.beq z' z then
      match s.h.obj id with
      | some (.row ap o)=>natK (Nat.min n len) fun k=>match takeN (k * z) new with
       | some new'=>match put off o new' with
        | some r=>s.h.updK id (some (.row ap r)) fun h=>some (.i .i64 (.ofNat k),⟨h,s.nx⟩)
        | none=>none
       | none=>none
      | _=>none
     else none
    | _=>none
 | _=>none
noncomputable def clearV (P:Program) (s:St) (t:TypeId) (x:V):Option (V × St) :=
 match P.underlying t with
 | some (.slice e)=>match sz P e,zeroC P e with
  | some z,some zc=>match x with
   | .ns=>some (und,s)
   | .sl id off len z'=>if Nat.beq z' z && Nat.beq zc.length z then
     if Nat.beq len 0 then some (und,s) else
     match s.h.obj id with
     | some (.row ap o)=>match put off o (repC len zc) with
      | some r=>s.h.updK id (some (.row ap r)) fun h=>some (und,⟨h,s.nx⟩)
      | none=>none
     | _=>none
    else none
   | _=>none
  | _,_=>none
 | _=>none
def keyEq:V → V → Option Bool
 | .i k a,.i k' b=>if kEq k k' then some (eqI a b) else none
 | .s a,.s b=>some (eqN a b)
 | _,_=>none
def findV (k:V):List (V × V) → Option (Option V)
 | []=>some none
 | (k',v) :: r=>match keyEq k k' with
  | some true=>some (some v)
  | some false=>findV k r
  | none=>none
def keyT (P:Program) (t:TypeId) (k:V):Bool :=
 match P.underlying t,k with
 | some (.int _),.i _ _=>true
 | some .string,.s _=>true
 | _,_=>false
noncomputable def lookV (P:Program) (h:H) (t:TypeId) (x k:V) (ok:Bool):Option V :=
 match P.underlying t with
 | some (.map kt e)=>if keyT P kt k then
   match x with
   | .m id=>match h.obj id with
    | some (.map l)=>match findV k l,zeroV P e with
     | some (some v),some _=>some (if ok then .t [v,.b true] else v)
     | some none,some z=>some (if ok then .t [z,.b false] else z)
     | _,_=>none
    | _=>none
   | _=>none
  else none
 | _=>none
noncomputable def insV (P:Program) (s:St) (t:TypeId) (x k v:V):Option (V × St) :=
 match P.underlying t with
 | some (.map kt _)=>if keyT P kt k then
   match x with
   | .m id=>match s.h.obj id with
    | some (.map l)=>match findV k l with
     | some none=>s.h.updK id (some (.map (l ++ [(k,v)]))) fun h=>some (und,⟨h,s.nx⟩)
     | _=>none
    | _=>none
   | _=>none
  else none
 | _=>none
noncomputable def nextV (s:St) (x:V):Option (V × St) :=
 match x with
 | .p id 0=>match s.h.obj id with
  | some (.it l pos)=>match getS l pos with
   | some c=>if Nat.blt c 128 then natK (pos + 1) fun q=>s.h.updK id (some (.it l q)) fun h=>some (.t [.b true,.i .i64 (.ofNat pos),.i .i32 (.ofNat c)],⟨h,s.nx⟩) else none
   | none=>some (.t [.b false],s)
  | _=>none
 | _=>none
noncomputable def oPick (t:Tm) (c a b:Operand):Option V:=match ev t c with
 | some (.b true)=>ev t a
 | some (.b false)=>ev t b
 | _=>none
noncomputable def oBuild (P:Program) (t:Tm) (ty:TypeId) (parts:Array (Nat × Operand)):Option V:=match evp t parts.toList with
 | some ps=>buildV P ty ps
 | none=>none
noncomputable def oNil (t:Tm) (x:Operand):Option V:=match ev t x with
 | some (.p id off)=>some (.p id off)
 | _=>none
noncomputable def oBin (P:Program) (t:Tm) (op:BinOp) (ty:TypeId) (x y:Operand):Option V:=match ev t x,ev t y with
 | some a,some b=>binT P op ty a b
 | _,_=>none
noncomputable def oUn (t:Tm) (op:UnOp) (x:Operand):Option V:=match ev t x with
 | some a=>unV op a
 | _=>none
noncomputable def oConv (P:Program) (t:Tm) (a b:TypeId) (x:Operand):Option V:=match ev t x,P.underlying a,P.underlying b with
 | some (.i _ n),some _,some (.int k)=>mkI k (wrapQ k n)
 | some (.s l),some _,some .string=>some (.s l)
 | _,_,_=>none
noncomputable def oFunc (t:Tm) (fn:Fn) (first cap:Array Operand):Option V:=match fn,evs t first.toList,evs t cap.toList with
 | .func f,some l,some c=>some (.f f l c)
 | _,_,_=>none
noncomputable def oSlice (P:Program) (t:Tm) (ty:TypeId) (x:Operand) (lo hi mx:Option Operand):Option V:=match mx,ev t x,evo t lo,evo t hi with
 | none,some y,some l,some h=>sliceV P ty y l h
 | _,_,_,_=>none
noncomputable def oFieldA (P:Program) (t:Tm) (ty:TypeId) (x:Operand) (f:Nat):Option V:=match ev t x,fieldOf P ty f with
 | some (.p id off),some fd=>match sz P fd.type with
  | some (_ + 1)=>natK (off + fd.offset) fun o=>some (.p id o)
  | _=>none
 | _,_=>none
noncomputable def oField (P:Program) (t:Tm) (ty:TypeId) (x:Operand) (f:Nat):Option V:=match ev t x,fieldOf P ty f with
 | some (.a cs),some fd=>partV P fd.type cs fd.offset
 | _,_=>none
noncomputable def oIndexA (P:Program) (t:Tm) (ty:TypeId) (x i:Operand):Option V:=match ev t x,ev t i with
 | some a,some b=>indexA P ty a b
 | _,_=>none
noncomputable def oIndex (P:Program) (t:Tm) (ty:TypeId) (x i:Operand):Option V:=match ev t x,ev t i with
 | some a,some b=>indexV P ty a b
 | _,_=>none
noncomputable def oExtract (t:Tm) (x:Operand) (i:Nat):Option V:=match ev t x with
 | some (.t l)=>getN l i
 | _=>none
noncomputable def oLen (P:Program) (t:Tm) (args:Array Operand) (tys:Array TypeId):Option V:=match evs t args.toList,tys[0]? with
 | some [x],some ty=>match lenV P ty x with | some n=>natK n fun n=>some (.i .i64 (.ofNat n)) | none=>none
 | _,_=>none
noncomputable def oMM (t:Tm) (mx:Bool) (args:Array Operand):Option V:=match evs t args.toList with | some l=>minmax mx l | none=>none
noncomputable def oBuiltin (P:Program) (t:Tm) (b:Builtin) (args:Array Operand) (tys:Array TypeId):Option V:=match b with
 | .len=>oLen P t args tys
 | .max=>oMM t true args
 | .min=>oMM t false args
 | _=>none
noncomputable def oCallP (P:Program) (t:Tm) (c:Call):Option V:=match c.callee with
 | .builtin b=>oBuiltin P t b c.args c.argTypes
 | _=>none
noncomputable def pureV (P:Program) (t:Tm) (o:Op):Option V :=
 match o with
 | .move x=>ev t x
 | .assign x=>ev t x
 | .pick c a b=>oPick t c a b
 | .build ty parts=>oBuild P t ty parts
 | .nilCheck x=>oNil t x
 | .binOp op ty x y _=>oBin P t op ty x y
 | .unOp op _ x=>oUn t op x
 | .convert a b x=>oConv P t a b x
 | .makeFunc fn first cap=>oFunc t fn first cap
 | .slice ty x lo hi mx=>oSlice P t ty x lo hi mx
 | .fieldAddr ty x f=>oFieldA P t ty x f
 | .field ty x f=>oField P t ty x f
 | .indexAddr ty x i=>oIndexA P t ty x i
 | .index ty x i=>oIndex P t ty x i
 | .extract x i=>oExtract t x i
 | .call c=>oCallP P t c
 | _=>none
noncomputable def oLoad (P:Program) (s:St) (t:Tm) (ty:TypeId) (a:Operand):Option (V × St):=match ev t a with
 | some (.p id off)=>match s.h.load P ty id off with | some v=>some (v,s) | none=>none
 | _=>none
noncomputable def oStore (P:Program) (s:St) (t:Tm) (ty:TypeId) (a x:Operand):Option (V × St):=match ev t a,ev t x with
 | some (.p id off),some y=>storeV P s ty id off y
 | _,_=>none
noncomputable def oAlloc (P:Program) (s:St) (e:TypeId):Option (V × St):=match zeroC P e with
 | some cs=>newO s (.row true cs) fun id s'=>some (.p id 0,s')
 | none=>none
noncomputable def oBox (s:St) (t:Tm) (x:Operand):Option (V × St):=match ev t x with
 | some y=>match y.cells with
  | some cs=>newO s (.row true cs) fun id s'=>some (.p id 0,s')
  | none=>none
 | none=>none
noncomputable def oBuildS (P:Program) (s:St) (t:Tm) (ty:TypeId) (len:Nat) (parts:Array (Nat × Operand)):Option (V × St):=match evp t parts.toList,P.underlying ty with
 | some ps,some (.slice e)=>match sz P e with
  | some z=>if Nat.ble (len * z) 1000 then
    (match zeroC P e with
    | some zc=>if Nat.beq zc.length z then (match fillC (fun i=>some (i * z,z)) (repC len zc) ps with
     | some cs=>newO s (.row true cs) fun id s'=>some (.sl id 0 len z,s')
     | none=>none) else none
    | none=>none) else none
  | none=>none
 | _,_=>none
noncomputable def oSliceE (P:Program) (s:St) (t:Tm) (ty:TypeId) (x:Operand) (lo hi mx:Option Operand):Option (V × St):=match mx,ev t x,evo t lo,evo t hi with
 | none,some y,some l,some h=>match sliceA P s.h ty y l h with | some v=>some (v,s) | none=>none
 | _,_,_,_=>none
noncomputable def oConvE (P:Program) (s:St) (t:Tm) (a b:TypeId) (x:Operand):Option (V × St):=match ev t x,P.underlying a,P.underlying b with
 | some (.s l),some .string,some (.slice e)=>match P.underlying e,sz P e with
  | some (.int .u8),some 1=>newO s (.row false (byteV l)) fun id s'=>some (.sl id 0 l.length 1,s')
  | _,_=>none
 | some .ns,some (.slice e),some .string=>match P.underlying e with
  | some (.int .u8)=>some (.s [],s)
  | _=>none
 | some (.sl id off len z),some (.slice e),some .string=>match P.underlying e,more s.h 1 (.sl id off len z) with
  | some (.int .u8),some (_,l)=>match byteL l with | some l=>some (.s l,s) | none=>none
  | _,_=>none
 | _,_,_=>none
noncomputable def oMakeS (P:Program) (s:St) (t:Tm) (ty:TypeId) (l c:Operand):Option (V × St):=match ev t l,ev t c,P.underlying ty with
 | some (.i _ (.ofNat n)),some (.i _ (.ofNat m)),some (.slice e)=>match sz P e,zeroC P e with
  | some z,some zc=>if Nat.beq n m && Nat.ble n 1000 && Nat.beq zc.length z && small P e then
    newO s (.row true (repC n zc)) fun id s'=>some (.sl id 0 n z,s') else none
  | _,_=>none
 | _,_,_=>none
noncomputable def oRange (P:Program) (s:St) (t:Tm) (ty:TypeId) (x:Operand):Option (V × St):=match ev t x,P.underlying ty with
 | some (.s l),some .string=>newO s (.it l 0) fun id s'=>some (.p id 0,s')
 | _,_=>none
noncomputable def oNext (s:St) (t:Tm) (x:Operand) (str:Bool):Option (V × St):=match str,ev t x with
 | true,some y=>nextV s y
 | _,_=>none
noncomputable def oMap (s:St) (r:Option Operand):Option (V × St):=match r with
 | none=>newO s (.map []) fun id s'=>some (.m id,s')
 | _=>none
noncomputable def oLook (P:Program) (s:St) (t:Tm) (ty:TypeId) (x k:Operand) (ok:Bool):Option (V × St):=match ev t x,ev t k with
 | some y,some z=>match lookV P s.h ty y z ok with | some v=>some (v,s) | none=>none
 | _,_=>none
noncomputable def oIns (P:Program) (s:St) (t:Tm) (ty:TypeId) (m k x:Operand):Option (V × St):=match ev t m,ev t k,ev t x with
 | some a,some b,some c=>insV P s ty a b c
 | _,_,_=>none
noncomputable def oAppend (P:Program) (s:St) (t:Tm) (args:Array Operand) (tys:Array TypeId):Option (V × St):=match evs t args.toList,tys.toList with
 | some [x,y],[ty,tx]=>appendV P s ty tx x y
 | _,_=>none
noncomputable def oClear (P:Program) (s:St) (t:Tm) (args:Array Operand) (tys:Array TypeId):Option (V × St):=match evs t args.toList,tys[0]? with
 | some [x],some ty=>clearV P s ty x
 | _,_=>none
noncomputable def oCopy (P:Program) (s:St) (t:Tm) (args:Array Operand) (tys:Array TypeId):Option (V × St):=match evs t args.toList,tys[0]? with
 | some [x,y],some ty=>copyV P s ty x y
 | _,_=>none
noncomputable def oCallB (P:Program) (s:St) (t:Tm) (b:Builtin) (args:Array Operand) (tys:Array TypeId):Option (V × St):=match b with
 | .append=>oAppend P s t args tys
 | .clear=>oClear P s t args tys
 | .copy=>oCopy P s t args tys
 | _=>none
noncomputable def oCallE (P:Program) (s:St) (t:Tm) (c:Call):Option (V × St):=match c.callee with
 | .builtin b=>oCallB P s t b c.args c.argTypes
 | _=>none
noncomputable def effV (P:Program) (s:St) (t:Tm) (o:Op):Option (V × St) :=
 match o with
 | .load ty a=>oLoad P s t ty a
 | .store ty a x=>oStore P s t ty a x
 | .alloc e=>oAlloc P s e
 | .box _ x=>oBox s t x
 | .buildSlice ty len parts=>oBuildS P s t ty len parts
 | .convert a b x=>oConvE P s t a b x
 | .slice ty x lo hi mx=>oSliceE P s t ty x lo hi mx
 | .makeSlice ty l c=>oMakeS P s t ty l c
 | .range ty x=>oRange P s t ty x
 | .next x str=>oNext s t x str
 | .makeMap _ r=>oMap s r
 | .lookup ty x k ok=>oLook P s t ty x k ok
 | .mapUpdate ty m k x=>oIns P s t ty m k x
 | .insert ty m k x=>oIns P s t ty m k x
 | .call c=>oCallE P s t c
 | _=>none
inductive X where
 | nrm
 | ext (id:Nat)
 | ret
def yl (ops:Array Oper) (t:Tm) (j:Nat):Option Bool :=
 match (ops[j]?).bind (·.dst) with
 | some d=>match getN t d with
  | some (.b x)=>some x
  | _=>none
 | none=>none
def wantedV (ops:Array Oper) (t:Tm) (o:Oper):Bool :=
 match o.guard with
 | none=>true
 | some (j,want)=>match yl ops t j with
  | some true=>want
  | some false=>!want
  | none=>false
noncomputable def setK {β:Type} (v:V) (l:List V):Nat → (List V → β) → β :=
 List.rec (fun _ k=>k []) (fun x r ih i k=>Nat.rec (k (v :: r)) (fun n _=>ih n fun r=>k (x :: r)) i) l
noncomputable def putK {β:Type} (t:Tm) (d:Option Tmp) (v:V) (k:Tm → β):β:=match d with | some i=>setK v t i k | none=>k t
noncomputable def resF (P:Program) (s:St) (t:Tm):List ResultVar → Option (List V)
 | []=>some []
 | .tmp i :: r=>match resF P s t r with | some l=>some (nth t i :: l) | none=>none
 | .cell a ty :: r=>match nth t a,resF P s t r with
  | .p id off,some l=>match s.h.load P ty id off with | some v=>some (v :: l) | none=>none
  | _,_=>none
abbrev Call':=St → Nat → List V → Option (V × St)
noncomputable def opE (P:Program) (s:St) (t:Tm) (o:Op):Option (V × St):=match pureV P t o with
 | some v=>some (v,s)
 | none=>effV P s t o
noncomputable def opC (call:Call') (s:St) (t:Tm) (f:Operand) (args:Array Operand):Option (V × St):=match ev t f,evs t args.toList with
 | some (.f g first cap),some l=>call s g (first ++ (l ++ cap))
 | _,_=>none
noncomputable def opK (P:Program) (call:Call') (s:St) (t:Tm) (o:Op) (c:Call):Option (V × St):=match c.callee with
 | .value f=>opC call s t f c.args
 | _=>opE P s t o
noncomputable def opG (P:Program) (call:Call') (s:St) (t:Tm) (o:Op):Option (V × St) :=
 match o with
 | .call c=>opK P call s t o c
 | _=>opE P s t o
noncomputable def opsG (P:Program) (call:Call') (ops:Array Oper) (l:List Oper):St → Tm → Option (St × Tm) :=
 List.rec (fun s t=>some (s,t)) (fun o _ ih s t =>
  Bool.rec (putK t o.dst und fun t'=>ih s t')
   (Option.rec none (fun p=>Prod.rec (fun v s'=>putK t o.dst v fun t'=>ih s' t') p) (opG P call s t o.op)) (wantedV ops t o)) l
mutual
def eqV:V → V → Bool
 | .i k x,.i k' y=>kEq k k' && eqI x y
 | .b x,.b y=>match x,y with | true,true=>true | false,false=>true | _,_=>false
 | .s x,.s y=>eqN x y
 | .np,.np=>true
 | .p a b,.p c d=>Nat.beq a c && Nat.beq b d
 | .ns,.ns=>true
 | .sl a b c d,.sl a' b' c' d'=>Nat.beq a a' && Nat.beq b b' && Nat.beq c c' && Nat.beq d d'
 | .m a,.m b=>Nat.beq a b
 | .nm,.nm=>true
 | .nf,.nf=>true
 | .f g x y,.f g2 x2 y2=>Nat.beq g g2 && eqVs x x2 && eqVs y y2
 | .a x,.a y=>eqVs x y
 | .t x,.t y=>eqVs x y
 | _,_=>false
def eqVs:List V → List V → Bool
 | [],[]=>true
 | x :: r,y :: q=>eqV x y && eqVs r q
 | _,_=>false
end
def sameV (x:Option V) (v:V):Bool:=match x with | some u=>eqV u v | none=>false
def cls (o:Op):Nat:=match o with
 | .move _=>0 | .assign _=>0 | .pick .. => 0 | .build .. => 0 | .nilCheck _=>0 | .binOp .. => 0 | .unOp .. => 0 | .convert .. => 0 | .makeFunc .. => 0
 | .slice .. => 0 | .fieldAddr .. => 0 | .field .. => 0 | .indexAddr .. => 0 | .index .. => 0 | .extract .. => 0
 | .call c=>match c.callee with
  | .builtin .len=>0 | .builtin .max=>0 | .builtin .min=>0
  | _=>2
 | .load .. => 1
 | _=>2
inductive Eff where
 | val (v:V)
 | ld (ty:TypeId) (id off:Nat) (v:V)
 | big (v:V) (s:St)
noncomputable def ldE (P:Program) (s:St) (t:Tm) (o:Op):Option Eff:=match o with
 | .load ty a=>match ev t a with
  | some (.p id off)=>match s.h.load P ty id off with | some v=>some (.ld ty id off v) | none=>none
  | _=>none
 | _=>none
noncomputable def effD (P:Program) (call:Call') (ops:Array Oper) (s:St) (t:Tm) (o:Oper):Option Eff :=
 if wantedV ops t o then
  match cls o.op with
  | 0=>match pureV P t o.op with | some v=>some (.val v) | none=>none
  | 1=>ldE P s t o.op
  | _=>match opG P call s t o.op with | some (v,s')=>some (.big v s') | none=>none
 else some (.val und)
structure Cfg where
 held:List (Nat × TypeId × Nat × Nat × V)
 hist:List (Nat × H)
 s:St
 t:Tm
def getI:List Nat → Nat → Nat
 | [],_=>0
 | x :: _,0=>x
 | _ :: r,n + 1=>getI r n
def maskE (acc:List Nat):List Edge → Nat
 | []=>0
 | e :: r=>if Region.binds .any e then Nat.lor (Nat.lor (Nat.shiftLeft 1 e.on) (getI acc e.on)) (maskE acc r) else maskE acc r
def masks:List Oper → List Nat → List Nat
 | [],acc=>acc
 | o :: r,acc=>masks r (acc ++ [maskE acc o.after.toList])
def ordM (M:List Nat) (j i:Nat):Bool:=bit (getI M i) j
noncomputable def heldOK (P:Program) (M:List Nat) (i:Nat) (h:H) (l:List (Nat × TypeId × Nat × Nat × V)):Bool:=l.all fun x=>ordM M x.1 i || sameV (h.load P x.2.1 x.2.2.1 x.2.2.2.1) x.2.2.2.2
noncomputable def histOK (P:Program) (M:List Nat) (i:Nat) (ty:TypeId) (id off:Nat) (v:V) (l:List (Nat × H)):Bool:=l.all fun x=>ordM M x.1 i || sameV (H.load P x.2 ty id off) v
noncomputable def applyD (P:Program) (M:List Nat) (i:Nat) (d:Option Tmp) (c:Cfg) (e:Eff):Option Cfg:=match e with
 | .val v=>putK c.t d v fun t=>some ⟨c.held,c.hist,c.s,t⟩
 | .ld ty id off v=>if histOK P M i ty id off v c.hist then putK c.t d v fun t=>some ⟨(i,ty,id,off,v) :: c.held,c.hist,c.s,t⟩ else none
 | .big v s=>if heldOK P M i s.h c.held then putK c.t d v fun t=>some ⟨c.held,(i,c.s.h) :: c.hist,s,t⟩ else none
noncomputable def stepD (P:Program) (call:Call') (ops:Array Oper) (M:List Nat) (c:Cfg) (x:Nat × Oper):Option Cfg:=match effD P call ops c.s c.t x.2 with
 | some e=>applyD P M x.1 x.2.dst c e
 | none=>none
noncomputable def runD (P:Program) (call:Call') (ops:Array Oper) (M:List Nat) (l:List (Nat × Oper)):Cfg → Option Cfg :=
 List.rec (fun c=>some c) (fun x _ ih c=>@Option.rec Cfg (fun _=>Option Cfg) none ih (stepD P call ops M c x)) l
def numb:Nat → List Oper → List (Nat × Oper)
 | _,[]=>[]
 | i,o :: r=>(i,o) :: numb (i + 1) r
def pairOK (ops:Array Oper) (M:List Nat) (x y:Nat × Oper):Bool:=ordM M x.1 y.1 || (Oper.apart ops x.2 y.2 && !(Nat.beq (cls x.2.op) 2 && Nat.beq (cls y.2.op) 2))
def pairsOK (ops:Array Oper) (M:List Nat):List (Nat × Oper) → Bool
 | []=>true
 | x :: r=>r.all (pairOK ops M x) && pairsOK ops M r
def edgesOK (x:Nat × Oper):Bool:=x.2.after.toList.all fun e=>!Region.binds .any e || Nat.blt e.on x.1
noncomputable def endD (r:Option Cfg):Option (St × Tm):=match r with | some c=>some (c.s,c.t) | none=>none
noncomputable def drawG (P:Program) (call:Call') (ops:Array Oper) (s:St) (t:Tm):Option (St × Tm) :=
 if pairsOK ops (masks ops.toList []) (numb 0 ops.toList) && (numb 0 ops.toList).all edgesOK then
  endD (runD P call ops (masks ops.toList []) (numb 0 ops.toList) ⟨[],[],s,t⟩) else none
abbrev CR:=Option (X × St × Tm)
noncomputable def thenG (r:CR) (k:St → Tm → CR):CR :=
 Option.rec none (fun p=>Prod.rec (fun x q=>X.rec (Prod.rec (fun s t=>k s t) q) (fun _=>r) r x) p) r
noncomputable def loopG (body:St → Tm → CR) (n:Nat):St → Tm → CR :=
 Nat.rec (fun _ _=>none) (fun _ ih s t=>thenG (body s t) ih) n
noncomputable def inBlockG (id:Nat) (r:CR):CR:=match r with
 | some (.ext id',q)=>if Nat.beq id' id then some (.nrm,q) else some (.ext id',q)
 | r=>r
noncomputable def condG (c:Option V) (x y:CR):CR:=match c with
 | some (.b true)=>x
 | some (.b false)=>y
 | _=>none
noncomputable def regG (r:Option (St × Tm)):CR:=match r with
 | some q=>some (.nrm,q)
 | none=>none
noncomputable def codeG (P:Program) (call:Call') (c:Code):St → Tm → CR :=
 Code.rec (motive:=fun _=>St → Tm → CR)
  (fun s t=>some (.nrm,s,t))
  (fun _ ops draw s t=>regG (@Bool.rec (fun _=>Option (St × Tm)) (opsG P call ops ops.toList s t) (drawG P call ops s t) draw))
  (fun _ _ ia ib s t=>thenG (ia s t) ib)
  (fun x _ _ ia ib s t=>condG (ev t x) (ia s t) (ib s t))
  (fun id _ ia s t=>inBlockG id (ia s t))
  (fun _ ia s t=>loopG ia 10000 s t)
  (fun _ _ _ _ _ _ _ _=>none)
  (fun id s t=>some (.ext id,s,t))
  (fun _ _ _ _=>none)
  (fun _ s t=>some (.nrm,s,t))
  (fun _ _ _=>none)
  (fun s t=>some (.ret,s,t))
  (fun _ _ _=>none) c
def undN:Nat → List V
 | 0=>[]
 | n + 1=>und :: undN n
def padT:List V → Nat → List V
 | [],n=>undN n
 | x :: r,n=>x :: padT r (n - 1)
noncomputable def packR (s:St) (r:Option (List V)):Option (V × St):=match r with
 | some [v]=>some (v,s)
 | some l=>some (.t l,s)
 | none=>none
noncomputable def backG (P:Program) (fn:Func) (r:CR):Option (V × St):=match r with
 | some (.nrm,s,t)=>packR s (resF P s t fn.results.toList)
 | some (.ret,s,t)=>packR s (resF P s t fn.results.toList)
 | _=>none
noncomputable def bodyG (P:Program) (E:Nat → List V → Option V) (call:Call') (s:St) (f:Nat) (l:List V):Option (V × St) :=
 match E f l with
 | some v=>some (v,s)
 | none=>match P.funcs[f]? with
  | none=>none
  | some fn=>match fn.body with
   | none=>none
   | some c=>backG P fn (codeG P call c s (padT l fn.ntmps))
noncomputable def callG (P:Program) (E:Nat → List V → Option V) (d:Nat):Call' :=
 Nat.rec (fun _ _ _=>none) (fun _ ih s f l=>bodyG P E ih s f l) d
end
section
abbrev M:=Nat → Option (Nat × Nat × Nat)
def M.le (m m':M):Prop:=∀ id x,m id = some x → m' id = some x
theorem M.le_refl (m:M):m.le m:=fun _ _ h=>h
theorem M.le_trans {a b c:M} (h:a.le b) (k:b.le c):a.le c:=fun id x hx=>k id x (h id x hx)
def bytesV (l:List Nat):ByteArray:=⟨⟨l.map UInt8.ofNat⟩⟩
def V.one:V → Bool
 | .a _ | .t _=>false
 | _=>true
mutual
inductive RV (m:M):V → Value → Prop where
 | i {k n}:RV m (.i k n) (.int k n)
 | b {x}:RV m (.b x) (.bool x)
 | s {l} (h:∀ n ∈ l,n < 256):RV m (.s l) (.string (bytesV l))
 | np:RV m .np (.pointer none)
 | p {id off r sh z} (h:m id = some (r,sh,z)):RV m (.p id off) (.pointer (some ⟨r,sh + off,none⟩))
 | ns:RV m .ns (.slice none 0 0)
 | sl {id off len c r sh z o cap} (h:m id = some (r,sh,z)) (hl:len ≤ cap) (hz:sh + off + cap * c ≤ z) (ho:o = sh + off ∨ cap = 0):RV m (.sl id off len c) (.slice (some ⟨r,o,none⟩) len cap)
 | m {id r sh z} (h:m id = some (r,sh,z)):RV m (.m id) (.map (some r))
 | nm:RV m .nm (.map none)
 | f {g l c fs cs} (h1:RVs m l fs.toList) (h2:RVs m c cs.toList):RV m (.f g l c) (.func (.func g) fs cs)
 | nf:RV m .nf .nilFunc
 | a {l cs} (h:RVs m l cs.toList) (h1:∀ x ∈ l,x.one = true):RV m (.a l) (.agg cs)
 | t {l cs} (h:RVs m l cs.toList):RV m (.t l) (.tuple cs)
inductive RVs (m:M):List V → List Value → Prop where
 | nil:RVs m [] []
 | cons {x v l r} (h:RV m x v) (hs:RVs m l r):RVs m (x :: l) (v :: r)
end
mutual
theorem RV.mono {m m':M} (hm:m.le m'):∀ {x v},RV m x v → RV m' x v
 | _,_,.i=>.i
 | _,_,.b=>.b
 | _,_,.s h=>.s h
 | _,_,.np=>.np
 | _,_,.p h=>.p (hm _ _ h)
 | _,_,.ns=>.ns
 | _,_,.sl h a b c=>.sl (hm _ _ h) a b c
 | _,_,.m h=>.m (hm _ _ h)
 | _,_,.nm=>.nm
 | _,_,.f a b=>.f (RVs.mono hm a) (RVs.mono hm b)
 | _,_,.nf=>.nf
 | _,_,.a h b=>.a (RVs.mono hm h) b
 | _,_,.t h=>.t (RVs.mono hm h)
theorem RVs.mono {m m':M} (hm:m.le m'):∀ {x v},RVs m x v → RVs m' x v
 | _,_,.nil=>.nil
 | _,_,.cons a b=>.cons (RV.mono hm a) (RVs.mono hm b)
end
variable {m:M}
theorem RVs.len {l:List V} {r:List Value} (h:RVs m l r):l.length = r.length:=by
 induction l generalizing r with
 | nil=>cases h;rfl
 | cons x l ih=>cases h with | cons _ hs=>simp [ih hs]
theorem RVs.append {l l':List V} {r r':List Value} (h:RVs m l r) (h':RVs m l' r'):RVs m (l ++ l') (r ++ r'):=by
 induction l generalizing r with
 | nil=>cases h;exact h'
 | cons x l ih=>cases h with | cons hx hs=>exact .cons hx (ih hs)
theorem RVs.get {l:List V} {r:List Value} (h:RVs m l r) (j:Nat) (x:V) (hx:l[j]? = some x):∃ v,r[j]? = some v ∧ RV m x v:=by
 induction l generalizing r j with
 | nil=>simp at hx
 | cons y l ih=>cases h with
  | cons hy hs=>cases j with
   | zero=>simp at hx;subst hx;exact ⟨_,rfl,hy⟩
   | succ j=>simp at hx;simpa using ih hs j hx
theorem RVs.drop {l:List V} {r:List Value} (h:RVs m l r) (n:Nat):RVs m (l.drop n) (r.drop n):=by
 induction n generalizing l r with
 | zero=>simpa
 | succ n ih=>cases h with
  | nil=>simpa using RVs.nil
  | cons _ hs=>simpa using ih hs
theorem RVs.take {l:List V} {r:List Value} (h:RVs m l r) (n:Nat):RVs m (l.take n) (r.take n):=by
 induction n generalizing l r with
 | zero=>simpa using RVs.nil
 | succ n ih=>cases h with
  | nil=>simpa using RVs.nil
  | cons hx hs=>simpa using RVs.cons hx (ih hs)
theorem RVs.of_get {l:List V} {r:List Value} (hl:l.length = r.length) (h:∀ (j:Nat) x v,l[j]? = some x → r[j]? = some v → RV m x v):RVs m l r:=by
 induction l generalizing r with
 | nil=>cases r with
  | nil=>exact .nil
  | cons _ _=>simp at hl
 | cons x l ih=>cases r with
  | nil=>simp at hl
  | cons v r=>exact .cons (h 0 x v rfl rfl) (ih (by simpa using hl) fun j x v hx hv=>h (j + 1) x v (by simpa using hx) (by simpa using hv))
theorem RV.oneCell {x:V} {v:Value} (h:RV m x v) (h1:x.one = true):v.oneCell' = true:=by
 cases h <;> first | rfl | simp [V.one] at h1
theorem nth_get (t:List V) (i:Nat):nth t i = t.getD i und:=by
 induction t generalizing i with
 | nil=>rfl
 | cons x t ih=>cases i with
  | zero=>rfl
  | succ i=>show nth t i = _;simp [ih]
theorem RV.und:RV m und undef:=.t .nil
theorem RVs.nth {l:List V} {r:List Value} (h:RVs m l r) (i:Nat):RV m (nth l i) (r.getD i undef):=by
 rw [nth_get]
 cases hx:l[i]? with
 | none =>
  have:r[i]? = none:=by rw [List.getElem?_eq_none_iff] at *;rw [← h.len];exact hx
  simp [List.getD,hx,this];exact .und
 | some x =>
  obtain ⟨v,hv,hr⟩:=h.get i x hx
  simp [List.getD,hx,hv];exact hr
theorem bytesN_back (l:List UInt8):(bytesN l).map UInt8.ofNat = l:=by
 induction l with
 | nil=>rfl
 | cons x l ih=>simp [bytesN,ih]
theorem bytesN_lt (l:List UInt8):∀ n ∈ bytesN l,n < 256:=by
 induction l with
 | nil=>simp [bytesN]
 | cons x l ih=>intro n hn;simp [bytesN] at hn;rcases hn with rfl | hn;exact x.toNat_lt;exact ih n hn
theorem ofAtom_sound {v:Value} {x:V} (h:ofAtom v = some x):RV m x v ∧ x.one = true:=by
 unfold ofAtom at h
 split at h <;> simp at h <;> subst h <;> first
  | exact ⟨.i,rfl⟩ | exact ⟨.b,rfl⟩ | exact ⟨.np,rfl⟩ | exact ⟨.ns,rfl⟩ | exact ⟨.nm,rfl⟩ | exact ⟨.nf,rfl⟩
  | exact ⟨.f .nil .nil,rfl⟩
  | skip
 rename_i s
 refine ⟨?_,rfl⟩
 have:s = bytesV (bytesN s.data.toList):=by simp [bytesV,bytesN_back]
 rw [this]
 simpa [← this] using RV.s (m:=m) (bytesN_lt s.data.toList)
theorem atoms_sound {vs:List Value} {l:List V} (h:atoms vs = some l):RVs m l vs ∧ ∀ x ∈ l,x.one = true:=by
 induction vs generalizing l with
 | nil=>simp [atoms] at h;subst h;exact ⟨.nil,by simp⟩
 | cons v vs ih =>
  simp only [atoms] at h
  split at h <;> simp at h
  rename_i x xs h1 h2
  subst h
  obtain ⟨a,b⟩:=ofAtom_sound (m:=m) h1
  obtain ⟨c,d⟩:=ih h2
  exact ⟨.cons a c,by simpa [b] using d⟩
theorem ofValue_sound {v:Value} {x:V} (h:ofValue v = some x):RV m x v:=by
 unfold ofValue at h
 split at h
 ·split at h <;> simp at h
  subst h
  rename_i hh
  obtain ⟨a,b⟩:=atoms_sound (m:=m) hh
  exact .a a b
 ·simp at h;subst h;exact .t .nil
 ·exact (ofAtom_sound h).1
abbrev TR (m:M) (t:Tm) (a:Act):Prop:=RVs m t a.tmps.toList
theorem ev_sound {t:Tm} {a:Act} (ht:TR m t a) {x:Operand} {v:V} (h:ev t x = some v):RV m v (a.eval x):=by
 cases x <;> simp [ev] at h
 ·subst h
  have:=ht.nth (m:=m) ‹Tmp›
  simpa [Act.eval,List.getD] using this
 ·exact ofValue_sound h
 ·subst h;exact .f .nil .nil
theorem evs_sound {t:Tm} {a:Act} (ht:TR m t a) {xs:List Operand} {vs:List V} (h:evs t xs = some vs):RVs m vs (xs.map a.eval):=by
 induction xs generalizing vs with
 | nil=>simp [evs] at h;subst h;exact .nil
 | cons x xs ih =>
  simp only [evs] at h
  split at h <;> simp at h
  subst h
  rename_i h1 h2
  exact .cons (ev_sound ht h1) (ih h2)
theorem cells_sound {x:V} {v:Value} (h:RV m x v) {l:List V} (hl:x.cells = some l):RVs m l v.cells.toList ∧ (∀ y ∈ l,y.one = true):=by
 cases h <;> simp [V.cells] at hl <;> subst hl <;> first
  | (refine ⟨?_,by simp [V.one]⟩;simp only [Value.cells];refine .cons ?_ .nil;constructor <;> assumption)
  | exact ⟨‹_›,‹_›⟩
theorem takeN_eq {n:Nat} {l r:List V} (h:takeN n l = some r):r = l.take n ∧ n ≤ l.length:=by
 induction n generalizing l r with
 | zero=>simp [takeN] at h;subst h;simp
 | succ n ih=>cases l with
  | nil=>simp [takeN] at h
  | cons x l =>
   simp only [takeN] at h
   split at h <;> simp at h
   rename_i hh
   obtain ⟨a,b⟩:=ih hh
   subst h;subst a;simp;omega
theorem dropN_eq (n:Nat) (l:List V):dropN n l = l.drop n:=by
 induction n generalizing l with
 | zero=>rfl
 | succ n ih=>cases l <;> simp [dropN,ih]
theorem getN_eq (l:List V) (n:Nat):getN l n = l[n]?:=by
 induction l generalizing n with
 | nil=>simp [getN]
 | cons x l ih=>cases n <;> simp [getN,ih]
theorem seg_eq {l r:List V} {off n:Nat} (h:seg l off n = some r):r = (l.drop off).take n ∧ (n = 0 ∨ off + n ≤ l.length):=by
 obtain ⟨a,b⟩:=takeN_eq h
 rw [dropN_eq] at a b
 refine ⟨a,?_⟩
 simp at b
 omega
end
section
theorem kEq_eq {k k':IntKind}:kEq k k' = true ↔ k = k':=by cases k <;> cases k' <;> simp [kEq]
theorem ltI_eq (x y:Int):ltI x y = decide (x < y):=by
 cases x <;> cases y <;> simp only [ltI,Nat.blt,Int.ofNat_eq_natCast]
 ·rw [Bool.eq_iff_iff];simp [Nat.ble_eq];omega
 ·rw [Bool.eq_iff_iff];simp;omega
 ·rw [Bool.eq_iff_iff];simp;omega
 ·rw [Bool.eq_iff_iff];simp [Nat.ble_eq];omega
theorem eqI_eq (x y:Int):eqI x y = (x == y):=by
 cases x <;> cases y <;> rw [Bool.eq_iff_iff] <;> simp [eqI] <;> omega
theorem wrapQ_eq (k:IntKind) (n:Int):wrapQ k n = k.wrap n:=by
 cases n with
 | ofNat a =>
  simp only [wrapQ]
  split
  ·rename_i h
   rw [Nat.blt_eq] at h
   cases k <;> simp only [lim] at h <;> simp only [IntKind.wrap,IntKind.bits,IntKind.signed,Bool.true_and,Bool.false_and,Int.ofNat_eq_natCast,Bool.false_eq_true,if_false] <;> first | omega | (split <;> first | omega | (rename_i hh;have h2:=of_decide_eq_true hh;simp only [Nat.reduceSub] at h2;omega) | (rename_i hh;have h2:=of_decide_eq_false (Bool.eq_false_iff.2 hh);simp only [Nat.reduceSub] at h2;omega))
  ·rfl
 | negSucc a =>
  simp only [wrapQ]
  split
  ·rename_i h
   rw [Bool.and_eq_true,Nat.blt_eq] at h
   obtain ⟨h0,h⟩:=h
   have e:Int.negSucc a = -(a:Int) - 1:=by omega
   rw [e]
   cases k <;> simp only [lim] at h <;> simp only [IntKind.signed,Bool.false_eq_true] at h0 <;> simp only [IntKind.wrap,IntKind.bits,IntKind.signed,Bool.true_and] <;> (split <;> first | omega | (rename_i hh;have h2:=of_decide_eq_true hh;simp only [Nat.reduceSub] at h2;omega) | (rename_i hh;have h2:=of_decide_eq_false (Bool.eq_false_iff.2 hh);simp only [Nat.reduceSub] at h2;omega))
  ·rfl
theorem wrap_small (k:IntKind) (a:Nat) (h:a < lim k):k.wrap (a:Int) = (a:Int):=by
 have:=wrapQ_eq k (.ofNat a)
 rw [← Int.ofNat_eq_natCast,← this]
 have e:Nat.blt a (lim k) = true:=by rw [Nat.blt_eq];exact h
 simp only [wrapQ,e,if_true]
theorem lim_bits (k:IntKind):lim k ≤ 2 ^ k.bits:=by cases k <;> simp [lim,IntKind.bits]
theorem lim_pow (k:IntKind):∃ n,lim k = 2 ^ n:=by
 cases k
 ·exact ⟨7,by simp only [lim]⟩
 ·exact ⟨15,by simp only [lim]⟩
 ·exact ⟨31,by simp only [lim]⟩
 ·exact ⟨63,by simp only [lim]⟩
 ·exact ⟨8,by simp only [lim]⟩
 ·exact ⟨16,by simp only [lim]⟩
 ·exact ⟨32,by simp only [lim]⟩
 ·exact ⟨64,by simp only [lim]⟩
theorem bv_small (k:IntKind) (a:Nat) (h:a < lim k):(BitVec.ofInt k.bits (Int.ofNat a)).toNat = a:=by
 have:=lim_bits k
 rw [Int.ofNat_eq_natCast,BitVec.ofInt_natCast]
 simp
 exact Nat.mod_eq_of_lt (by omega)
theorem bitQ_eq {k:IntKind} {x y:Int} {g:Nat → Nat → Nat} {f:BitVec k.bits → BitVec k.bits → BitVec k.bits} {v:V}
  (hg:∀ a b,a < lim k → b < lim k → (f (BitVec.ofInt k.bits (Int.ofNat a)) (BitVec.ofInt k.bits (Int.ofNat b))).toNat = g a b ∧ g a b < lim k)
  (h:bitQ k x y g (k.wrap (f (BitVec.ofInt k.bits x) (BitVec.ofInt k.bits y)).toNat) = some v):v = .i k (k.wrap (f (BitVec.ofInt k.bits x) (BitVec.ofInt k.bits y)).toNat):=by
 unfold bitQ at h
 split at h
 ·split at h
  ·rename_i a b hh
   rw [Bool.and_eq_true,Nat.blt_eq,Nat.blt_eq] at hh
   obtain ⟨e,l⟩:=hg a b hh.1 hh.2
   simp [mkI] at h
   subst h
   rw [e,wrap_small k _ l]
  ·simp [mkI] at h;exact h.symm
 ·simp [mkI] at h;exact h.symm
theorem bitQ_and {k:IntKind} {x y:Int} {v:V} (h:bitQ k x y Nat.land (k.wrap (BitVec.ofInt k.bits x &&& BitVec.ofInt k.bits y).toNat) = some v) :
  v = .i k (k.wrap (BitVec.ofInt k.bits x &&& BitVec.ofInt k.bits y).toNat) :=
 bitQ_eq (f:=fun a b=>a &&& b) (fun a b ha hb=>by
  simp only [BitVec.toNat_and,bv_small k a ha,bv_small k b hb]
  exact ⟨rfl,Nat.lt_of_le_of_lt Nat.and_le_left ha⟩) h
theorem bitQ_or {k:IntKind} {x y:Int} {v:V} (h:bitQ k x y Nat.lor (k.wrap (BitVec.ofInt k.bits x ||| BitVec.ofInt k.bits y).toNat) = some v) :
  v = .i k (k.wrap (BitVec.ofInt k.bits x ||| BitVec.ofInt k.bits y).toNat) :=
 bitQ_eq (f:=fun a b=>a ||| b) (fun a b ha hb=>by
  simp only [BitVec.toNat_or,bv_small k a ha,bv_small k b hb]
  obtain ⟨n,hn⟩:=lim_pow k
  rw [hn] at ha hb ⊢
  exact ⟨rfl,Nat.or_lt_two_pow ha hb⟩) h
theorem bitQ_xor {k:IntKind} {x y:Int} {v:V} (h:bitQ k x y Nat.xor (k.wrap (BitVec.ofInt k.bits x ^^^ BitVec.ofInt k.bits y).toNat) = some v) :
  v = .i k (k.wrap (BitVec.ofInt k.bits x ^^^ BitVec.ofInt k.bits y).toNat) :=
 bitQ_eq (f:=fun a b=>a ^^^ b) (fun a b ha hb=>by
  simp only [BitVec.toNat_xor,bv_small k a ha,bv_small k b hb]
  obtain ⟨n,hn⟩:=lim_pow k
  rw [hn] at ha hb ⊢
  exact ⟨rfl,Nat.xor_lt_two_pow ha hb⟩) h
theorem bitQ_andNot {k:IntKind} {x y:Int} {v:V} (h:bitQ k x y (fun a b=>Nat.xor a (Nat.land a b)) (k.wrap (BitVec.ofInt k.bits x &&& ~~~ BitVec.ofInt k.bits y).toNat) = some v) :
  v = .i k (k.wrap (BitVec.ofInt k.bits x &&& ~~~ BitVec.ofInt k.bits y).toNat) :=
 bitQ_eq (f:=fun a b=>a &&& ~~~ b) (fun a b ha hb=>by
  obtain ⟨n,hn⟩:=lim_pow k
  have hlb:=lim_bits k
  have hlb':=lim_bits k
  have hn':n ≤ k.bits:=by rw [hn] at hlb;exact (Nat.pow_le_pow_iff_right (by decide)).1 hlb
  have e:(BitVec.ofInt k.bits (Int.ofNat a) &&& ~~~ BitVec.ofInt k.bits (Int.ofNat b)).toNat = a ^^^ (a &&& b):=by
   clear h
   apply Nat.eq_of_testBit_eq
   intro i
   have h1:=bv_small k a ha
   have h2:=bv_small k b hb
   have e1:(BitVec.ofInt k.bits (Int.ofNat a)).getLsbD i = a.testBit i:=by rw [← BitVec.testBit_toNat,h1]
   have e2:(BitVec.ofInt k.bits (Int.ofNat b)).getLsbD i = b.testBit i:=by rw [← BitVec.testBit_toNat,h2]
   have e0:∀ i,k.bits ≤ i → a.testBit i = false:=fun i hi=>Nat.testBit_lt_two_pow (Nat.lt_of_lt_of_le (Nat.lt_of_lt_of_le ha hlb') (Nat.pow_le_pow_right (by decide) hi))
   rw [BitVec.testBit_toNat,BitVec.getLsbD_and,BitVec.getLsbD_not,e1,e2,Nat.testBit_xor,Nat.testBit_and]
   by_cases hi:i < k.bits
   ·rw [decide_eq_true hi]
    cases a.testBit i <;> cases b.testBit i <;> rfl
   ·rw [e0 i (by omega)];simp
  refine ⟨e,?_⟩
  rw [hn] at ha hb ⊢
  exact Nat.xor_lt_two_pow ha (Nat.lt_of_le_of_lt Nat.and_le_left ha)) h
theorem shl_eq (a b:Nat) (k:IntKind):(Int.ofNat (Nat.shiftLeft a (Nat.min b k.bits))) = Int.ofNat a * 2 ^ (min b k.bits):=by
 show Int.ofNat (a <<< _) = _
 rw [Nat.shiftLeft_eq]
 simp
theorem shr_eq (a b:Nat) (k:IntKind):(Int.ofNat (Nat.shiftRight a (Nat.min b k.bits))) = Int.fdiv (Int.ofNat a) (2 ^ (min b k.bits)):=by
 show Int.ofNat (a >>> _) = _
 rw [Nat.shiftRight_eq_div_pow]
 have:(2 ^ (min b k.bits):Int) = ((2 ^ (min b k.bits):Nat):Int):=by simp
 rw [this]
 simp only [Int.ofNat_eq_natCast]
 rw [Int.fdiv_eq_ediv_of_nonneg _ (Int.natCast_nonneg _)]
 rfl
theorem eqN_eq (x y:List Nat):eqN x y = (x == y):=by
 induction x generalizing y with
 | nil=>cases y <;> rfl
 | cons a x ih=>cases y with
  | nil=>rfl
  | cons b y=>simp [eqN,ih];cases h:a == b <;> simp_all
theorem eqN_bytes {x y:List Nat} (hx:∀ n ∈ x,n < 256) (hy:∀ n ∈ y,n < 256):(x.map UInt8.ofNat == y.map UInt8.ofNat) = eqN x y:=by
 rw [eqN_eq,Bool.eq_iff_iff]
 simp only [beq_iff_eq]
 constructor
 ·intro h
  induction x generalizing y with
  | nil=>cases y <;> simp_all
  | cons a x ih=>cases y with
   | nil=>simp at h
   | cons b y =>
    simp at h
    have ha:=hx a (by simp)
    have hb:=hy b (by simp)
    have e:a = b:=by
     have:=congrArg UInt8.toNat h.1
     simp at this
     omega
    rw [e,ih (fun n hn=>hx n (by simp [hn])) (fun n hn=>hy n (by simp [hn])) h.2]
 ·intro h;rw [h]
theorem lessN_bytes {x y:List Nat} (hx:∀ n ∈ x,n < 256) (hy:∀ n ∈ y,n < 256):Op.bytesLess (x.map UInt8.ofNat) (y.map UInt8.ofNat) = lessN x y:=by
 induction x generalizing y with
 | nil=>cases y <;> rfl
 | cons a x ih=>cases y with
  | nil=>rfl
  | cons b y =>
   have ha:=hx a (by simp)
   have hb:=hy b (by simp)
   simp only [List.map_cons,Op.bytesLess,lessN,ih (fun n hn=>hx n (List.mem_cons_of_mem _ hn)) (fun n hn=>hy n (List.mem_cons_of_mem _ hn))]
   have e1:(decide (UInt8.ofNat a < UInt8.ofNat b)) = Nat.blt a b:=by
    rw [Bool.eq_iff_iff,Nat.blt_eq];simp [UInt8.lt_iff_toNat_lt];omega
   have e2:(UInt8.ofNat a == UInt8.ofNat b) = Nat.beq a b:=by
    rw [Bool.eq_iff_iff];simp
    constructor
    ·intro h;have:=congrArg UInt8.toNat h;simp at this;omega
    ·intro h;rw [h]
   rw [e1,e2]
theorem bytesV_toList (x:List Nat):(bytesV x).toList = x.map UInt8.ofNat:=by
 simp [bytesV,ByteArray.toList_eq]
end
section
variable {P:Program} {m:M}
def Gives (P:Program) (m:M) (ρ:Operand → Value) (o:Oper) (v:V):Prop:=∃ rv,RV m v rv ∧ ∀ w,(execOp ρ o).run P w = .ok (.value rv) w
def Yes (P:Program) (m:M) (s:Sem Value) (v:V):Prop:=∃ rv,RV m v rv ∧ ∀ w,s.run P w = .ok rv w
theorem sz_some {t:TypeId} {n:Nat} (h:sz P t = some n):∃ i,P.info? t = some i ∧ i.size = n:=by
 unfold sz at h
 split at h
 ·simp at h;exact ⟨_,‹_›,h⟩
 ·simp at h
theorem run_sizeOf' {t:TypeId} {n:Nat} (h:sz P t = some n) (w:World):(sizeOf t).run P w = .ok n w:=by
 obtain ⟨i,hi,rfl⟩:=sz_some h
 simp [sizeOf,typeInfo,hi]
theorem run_isAgg' {t:TypeId} {b:Bool} (h:isAgg P t = some b) (w:World):(Go.isAgg t).run P w = .ok b w:=by
 unfold isAgg at h
 unfold Go.isAgg
 split at h
 ·rename_i fs hu;simp at h;subst h;simp [run_underlying hu]
 ·rename_i n e hu;simp at h;subst h;simp [run_underlying hu]
 ·rename_i d hd1 hd2 hu
  simp at h;subst h
  rw [Sem.run_bind,run_underlying hu]
  cases d <;> simp_all
 ·simp at h
theorem zeroV_some {t:TypeId} {v:V} (h:zeroV P t = some v):∃ i z,P.info? t = some i ∧ i.zero = some z ∧ RV m v z:=by
 unfold zeroV at h
 split at h <;> try simp at h
 split at h <;> try simp at h
 exact ⟨_,_,‹_›,‹_›,ofValue_sound h⟩
theorem zeroC_some {t:TypeId} {l:List V} (h:zeroC P t = some l):∃ i z,P.info? t = some i ∧ i.zero = some z ∧ RVs m l z.cells.toList ∧ ∀ x ∈ l,x.one = true:=by
 unfold zeroC at h
 split at h <;> try simp at h
 obtain ⟨i,z,a,b,c⟩:=zeroV_some (m:=m) ‹_›
 obtain ⟨d,e⟩:=cells_sound c h
 exact ⟨i,z,a,b,d,e⟩
theorem RVs.extract {l:List V} {cs:Array Value} (h:RVs m l cs.toList) (off n:Nat):RVs m ((l.drop off).take n) (cs.extract off (off + n)).toList:=by
 have:=(h.drop off).take n
 simpa [List.extract_eq_take_drop] using this
theorem partV_sound {t:TypeId} {l:List V} {cs:Array Value} {off:Nat} {v:V} (h:partV P t l off = some v) (hl:RVs m l cs.toList) (h1:∀ x ∈ l,x.one = true):Yes P m (part t cs off) v:=by
 unfold partV at h
 split at h
 ·rename_i ha
  split at h <;> try simp at h
  rename_i n hn
  split at h <;> try simp at h
  rename_i r hr
  subst h
  obtain ⟨rfl,_⟩:=seg_eq hr
  refine ⟨.agg (cs.extract off (off + n)),.a (hl.extract off n) (fun x hx=>h1 x (List.mem_of_mem_drop (List.mem_of_mem_take hx))),fun w=>?_⟩
  simp [part,run_isAgg' ha,run_sizeOf' hn]
 ·rename_i ha
  rw [getN_eq] at h
  obtain ⟨rv,hv,hr⟩:=hl.get off v h
  refine ⟨rv,hr,fun w=>?_⟩
  have:cs[off]? = some rv:=by simpa using hv
  simp [part,run_isAgg' ha,this]
 ·simp at h
theorem over_eq {l xs r:List V} (h:over l xs = some r):xs.length ≤ l.length ∧ r = xs ++ l.drop xs.length:=by
 induction xs generalizing l r with
 | nil=>cases l <;> simp [over] at h <;> simp [h]
 | cons x xs ih=>cases l with
  | nil=>simp [over] at h
  | cons y l =>
   simp only [over] at h
   split at h <;> simp at h
   rename_i hh
   obtain ⟨a,b⟩:=ih hh
   subst h;subst b
   simp;exact a
theorem put_eq {n:Nat} {l xs r:List V} (h:put n l xs = some r):n + xs.length ≤ l.length ∧ r = l.take n ++ (xs ++ l.drop (n + xs.length)):=by
 induction n generalizing l r with
 | zero=>obtain ⟨a,b⟩:=over_eq (by simpa [put] using h);simp [b];exact a
 | succ n ih=>cases l with
  | nil=>simp [put] at h
  | cons y l =>
   simp only [put] at h
   split at h <;> simp at h
   rename_i hh
   obtain ⟨a,b⟩:=ih hh
   subst h;subst b
   simp
   refine ⟨by omega,?_⟩
   rw [show n + 1 + xs.length = (n + xs.length) + 1 by omega];simp
theorem foldl_put (off:Nat):∀ (vs:List Value) (k:Nat) (cells:Array Value),off + k + vs.length ≤ cells.size →
  ((vs.zipIdx k).foldl (fun cs (p:Value × Nat)=>cs.setIfInBounds (off + p.2) p.1) cells).toList = cells.toList.take (off + k) ++ (vs ++ cells.toList.drop (off + k + vs.length))
 | [],k,cells,_=>by simp
 | v :: vs,k,cells,h=>by
  simp only [List.zipIdx_cons,List.foldl_cons]
  rw [foldl_put off vs (k + 1) _ (by simp at h ⊢;omega)]
  simp only [List.length_cons] at h
  simp only [Array.toList_setIfInBounds,List.length_cons]
  apply List.ext_getElem?
  intro j
  have hs:cells.toList.length = cells.size:=Array.length_toList
  simp only [List.getElem?_append,List.length_take,List.length_set,List.length_cons,List.getElem?_take,List.getElem?_drop,List.getElem?_set,hs]
  by_cases h1:j < off + k
  ·simp [show j < min (off + (k + 1)) cells.size by omega,show j < min (off + k) cells.size by omega,show j < off + (k + 1) by omega,show j < off + k by omega,show off + k ≠ j by omega]
  ·by_cases h2:j = off + k
   ·subst h2
    simp [show off + k < min (off + (k + 1)) cells.size by omega,show ¬ (off + k < min (off + k) cells.size) by omega,show off + k < off + (k + 1) by omega,show off + k < cells.size by omega,show min (off + k) cells.size = off + k by omega]
   ·rw [if_neg (by omega:¬ j < min (off + (k + 1)) cells.size),if_neg (by omega:¬ j < min (off + k) cells.size)]
    rw [show min (off + (k + 1)) cells.size = off + (k + 1) by omega,show min (off + k) cells.size = off + k by omega]
    by_cases h3:j - (off + (k + 1)) < vs.length
    ·rw [if_pos h3,if_pos (by omega:j - (off + k) < vs.length + 1)]
     rw [show j - (off + k) = (j - (off + (k + 1))) + 1 by omega];simp
    ·rw [if_neg h3,if_neg (by omega:¬ j - (off + k) < vs.length + 1)]
     rw [if_neg (by omega)]
     congr 1
     omega
theorem put_sound {off:Nat} {l xs r:List V} {cells vs:Array Value} (h:put off l xs = some r) (hl:RVs m l cells.toList) (hx:RVs m xs vs.toList) :
  off + vs.size ≤ cells.size ∧ RVs m r (vs.zipIdx.foldl (fun cs (p:Value × Nat)=>cs.setIfInBounds (off + p.2) p.1) cells).toList:=by
 obtain ⟨a,b⟩:=put_eq h
 have e1:l.length = cells.size:=by simpa using hl.len
 have e2:xs.length = vs.size:=by simpa using hx.len
 refine ⟨by omega,?_⟩
 have:=foldl_put off vs.toList 0 cells (by simp;omega)
 rw [← Array.foldl_toList,Array.toList_zipIdx,this,b]
 simp only [Nat.add_zero]
 refine (hl.take off).append (hx.append ?_)
 have:=hl.drop (off + xs.length)
 rw [e2] at this ⊢
 simpa using this
inductive PR (m:M):List (Nat × V) → List (Nat × Value) → Prop where
 | nil:PR m [] []
 | cons {i x v l r} (h:RV m x v) (hs:PR m l r):PR m ((i,x) :: l) ((i,v) :: r)
theorem evp_sound {t:Tm} {a:Act} (ht:TR m t a) {xs:List (Nat × Operand)} {ps:List (Nat × V)} (h:evp t xs = some ps) :
  PR m ps (xs.map fun (i,x)=>(i,a.eval x)):=by
 induction xs generalizing ps with
 | nil=>simp [evp] at h;subst h;exact .nil
 | cons x xs ih =>
  obtain ⟨i,x⟩:=x
  simp only [evp] at h
  split at h <;> simp at h
  subst h
  rename_i h1 h2
  exact .cons (ev_sound ht h1) (ih h2)
theorem fill_sound {place:Nat → Option (Nat × Nat)} {ps:List (Nat × V)} {qs:List (Nat × Value)} (hp:PR m ps qs) :
  ∀ {l r:List V} {cells:Array Value},fillC place l ps = some r → RVs m l cells.toList → (∀ x ∈ l,x.one = true) → ∃ cells',Instr.fill place cells qs = some cells' ∧ RVs m r cells'.toList ∧ (∀ x ∈ r,x.one = true) ∧ cells'.size = cells.size:=by
 induction hp with
 | nil=>intro l r cells h hl h1;simp [fillC] at h;subst h;exact ⟨cells,rfl,hl,h1,rfl⟩
 | @cons i v rv ps qs hv _ ih =>
  intro l r cells h hl h1
  simp only [fillC] at h
  split at h <;> try simp at h
  rename_i off n cs hpl hcs
  obtain ⟨hn,h⟩:=h
  split at h <;> try simp at h
  rename_i l' hput
  obtain ⟨c1,c2⟩:=cells_sound hv hcs
  obtain ⟨d1,d2⟩:=put_sound hput hl c1
  have hn':rv.cells.size = n:=by have:=c1.len;simp at this hn;omega
  obtain ⟨p1,p2⟩:=put_eq hput
  have one':∀ x ∈ l',x.one = true:=by
   intro x hx
   rw [p2] at hx
   simp only [List.mem_append] at hx
   rcases hx with hx | hx | hx
   ·exact h1 x (List.mem_of_mem_take hx)
   ·exact c2 x hx
   ·exact h1 x (List.mem_of_mem_drop hx)
  obtain ⟨cells',e1,e2,e3,e4⟩:=ih h d2 one'
  refine ⟨cells',?_,e2,e3,?_⟩
  ·simp only [Instr.fill,hpl]
   rw [if_neg (by simp;omega)]
   exact e1
  ·rw [e4]
   have hl1:=hl.len
   have hl2:=d2.len
   rw [p2] at hl2
   simp at hl1 hl2 p1 ⊢
   omega
theorem placesL_eq {fs:List Field} {pl:List (Nat × Nat)} (h:placesL P fs = some pl):fs.mapM (fun f=>(P.info? f.type).map fun i=>(f.offset,i.size)) = some pl:=by
 induction fs generalizing pl with
 | nil=>simp [placesL] at h;subst h;rfl
 | cons f fs ih =>
  simp only [placesL] at h
  split at h <;> simp at h
  rename_i n l hn hl
  subst h
  obtain ⟨i,hi,rfl⟩:=sz_some hn
  simp [List.mapM_cons,hi,ih hl]
theorem buildV_sound {t:TypeId} {ps:List (Nat × V)} {qs:Array (Nat × Value)} {v:V} (h:buildV P t ps = some v) (hp:PR m ps qs.toList):Yes P m (Instr.build t qs) v:=by
 unfold buildV at h
 split at h
 ·rename_i z fs hz hu
  split at h <;> try simp at h
  rename_i pl hpl
  split at h <;> try simp at h
  rename_i l hl
  subst h
  obtain ⟨i,z',hi,hiz,hc,h1⟩:=zeroC_some (m:=m) hz
  obtain ⟨cells,e1,e2,e3,_⟩:=fill_sound hp hl hc h1
  refine ⟨.agg cells,.a e2 e3,fun w=>run_build w t qs cells ?_⟩
  simp only [Program.built,hi,hu,hiz,placesL_eq hpl]
  simpa using e1
 ·rename_i z n e hz hu
  split at h <;> try simp at h
  rename_i s hs
  split at h <;> try simp at h
  rename_i l hl
  subst h
  obtain ⟨i,z',hi,hiz,hc,h1⟩:=zeroC_some (m:=m) hz
  obtain ⟨ie,hie,rfl⟩:=sz_some hs
  obtain ⟨cells,e1,e2,e3,_⟩:=fill_sound hp hl hc h1
  refine ⟨.agg cells,.a e2 e3,fun w=>run_build w t qs cells ?_⟩
  simp only [Program.built,hi,hu,hiz,hie]
  exact e1
 ·simp at h
end
section
variable {P:Program} {m:M}
theorem Addr.add_eq (r o n:Nat):(⟨r,o,none⟩:Addr).add n = ⟨r,o + n,none⟩:=by unfold Addr.add;split <;> simp_all
theorem mkI_some {k:IntKind} {n:Int} {v:V} (h:mkI k n = some v):v = .i k n:=by simpa [mkI,eq_comm] using h
theorem intOp_sound {op:BinOp} {k:IntKind} {x y:Int} {v:V} (h:intOp op k x y = some v) (ty:TypeId) (hs:op ≠ .shl ∧ op ≠ .shr):Yes P m (Go.binOp op ty (.int k x) (.int k y)) v:=by
 cases op <;> simp only [intOp] at h <;> simp at hs
 case add=>have:=mkI_some h;subst this;rw [wrapQ_eq];exact ⟨_,.i,fun w=>by simp [Go.binOp,Op.intArith] <;> rfl⟩
 case sub=>have:=mkI_some h;subst this;rw [wrapQ_eq];exact ⟨_,.i,fun w=>by simp [Go.binOp,Op.intArith] <;> rfl⟩
 case mul=>have:=mkI_some h;subst this;rw [wrapQ_eq];exact ⟨_,.i,fun w=>by simp [Go.binOp,Op.intArith] <;> rfl⟩
 case quo =>
  split at h <;> try simp at h
  rename_i hy
  rw [eqI_eq] at hy
  have hy':¬ y = 0:=by simpa using hy
  have:=mkI_some h;subst this;rw [wrapQ_eq];exact ⟨_,.i,fun w=>by simp [Go.binOp,Op.intDiv,hy']⟩
 case rem =>
  split at h <;> try simp at h
  rename_i hy
  rw [eqI_eq] at hy
  have hy':¬ y = 0:=by simpa using hy
  have:=mkI_some h;subst this;exact ⟨_,.i,fun w=>by simp [Go.binOp,Op.intDiv,hy']⟩
 case and=>have:=bitQ_and h;subst this;exact ⟨_,.i,fun w=>by simp [Go.binOp,Op.intBits]⟩
 case or=>have:=bitQ_or h;subst this;exact ⟨_,.i,fun w=>by simp [Go.binOp,Op.intBits]⟩
 case xor=>have:=bitQ_xor h;subst this;exact ⟨_,.i,fun w=>by simp [Go.binOp,Op.intBits]⟩
 case andNot=>have:=bitQ_andNot h;subst this;exact ⟨_,.i,fun w=>by simp [Go.binOp,Op.intBits]⟩
 case eql=>simp at h;subst h;rw [eqI_eq];exact ⟨_,.b,fun w=>by simp [Go.binOp,Op.intCmp]⟩
 case neq=>simp at h;subst h;rw [eqI_eq];exact ⟨_,.b,fun w=>by simp [Go.binOp,Op.intCmp,bne]⟩
 case lss=>simp at h;subst h;rw [ltI_eq];exact ⟨_,.b,fun w=>by simp [Go.binOp,Op.intCmp]⟩
 case leq =>
  simp at h;subst h;rw [ltI_eq]
  have e:decide (x ≤ y) = !decide (y < x):=by rw [Bool.eq_iff_iff];simp
  exact ⟨_,.b,fun w=>by simp [Go.binOp,Op.intCmp,e]⟩
 case gtr=>simp at h;subst h;rw [ltI_eq];exact ⟨_,.b,fun w=>by simp [Go.binOp,Op.intCmp]⟩
 case geq =>
  simp at h;subst h;rw [ltI_eq]
  have e:decide (y ≤ x) = !decide (x < y):=by rw [Bool.eq_iff_iff];simp
  exact ⟨_,.b,fun w=>by simp [Go.binOp,Op.intCmp,e]⟩
theorem shiftOp_sound {op:BinOp} {k k':IntKind} {x y:Int} {v:V} (h:shiftOp op k x y = some v) (ty:TypeId):Yes P m (Go.binOp op ty (.int k x) (.int k' y)) v:=by
 unfold shiftOp at h
 split at h
 ·rename_i a b
  have hb:¬ ((b:Int) < 0):=by omega
  cases op <;> simp only [] at h <;> try (simp at h;done)
  ·have:=mkI_some h;subst this
   rw [wrapQ_eq,shl_eq]
   exact ⟨_,.i,fun w=>by simp [Go.binOp,Op.shift,hb]⟩
  ·have:=mkI_some h;subst this
   rw [shr_eq]
   exact ⟨_,.i,fun w=>by simp [Go.binOp,Op.shift,hb]⟩
 ·rename_i a b
  have hb:¬ ((b:Int) < 0):=by omega
  cases op <;> simp only [] at h <;> try (simp at h;done)
  ·have:=mkI_some h;subst this
   exact ⟨_,.i,fun w=>by simp [Go.binOp,Op.shift,hb]⟩
  ·have:=mkI_some h;subst this
   exact ⟨_,.i,fun w=>by simp [Go.binOp,Op.shift,hb]⟩
 ·simp at h
theorem strOp_sound {op:BinOp} {x y:List Nat} {v:V} (h:strOp op x y = some v) (hx:∀ n ∈ x,n < 256) (hy:∀ n ∈ y,n < 256) (ty:TypeId):Yes P m (Go.binOp op ty (.string (bytesV x)) (.string (bytesV y))) v:=by
 have e1:=eqN_bytes hx hy
 have e2:=lessN_bytes hx hy
 cases op <;> simp only [strOp] at h <;> try (simp at h;done)
 case add =>
  split at h <;> simp at h
  subst h
  rename_i hl
  rw [Nat.blt_eq] at hl
  have hz:∀ l:List Nat,(bytesV l).size = l.length:=fun l=>by simp [bytesV,ByteArray.size]
  refine ⟨.string (bytesV (x ++ y)),.s (fun n hn=>by rcases List.mem_append.1 hn with h | h;exact hx n h;exact hy n h),fun w=>?_⟩
  have e3:bytesV x ++ bytesV y = bytesV (x ++ y):=by apply ByteArray.ext;simp [bytesV]
  have:¬ ((((bytesV x).size + (bytesV y).size:Nat):Int) > IntKind.i64.max):=by
   have:IntKind.i64.max = 9223372036854775807:=by decide
   rw [this,hz,hz];omega
  simp only [Go.binOp,Op.stringOp,if_neg this,e3]
  rfl
 all_goals
  simp at h;subst h
  exact ⟨_,.b,fun w=>by simp [Go.binOp,Op.stringOp,bytesV_toList,e1,e2]⟩
theorem eqAtom_sound {ty:TypeId} {x y:V} {a b:Value} {r:Bool} (h:eqAtom P ty x y = some r) (hx:RV m x a) (hy:RV m y b):∀ w,(Op.equal ty a b).run P w = .ok r w:=by
 unfold eqAtom at h
 intro w
 split at h
 ·rename_i hu
  split at h <;> try simp at h
  cases hx;cases hy
  subst h
  rw [run_equal_bool w ty _ _ hu]
  rename_i a b
  cases a <;> cases b <;> rfl
 ·rename_i e hu
  have:∀ d,(Op.equalIn (d + 1) ty a b).run P w = .ok r w:=fun d=>by
   split at h <;> simp at h <;> subst h <;> cases hx <;> cases hy <;> simp [Op.equalIn,run_underlying hu]
  exact this 9999
 ·rename_i hu
  have:∀ d,(Op.equalIn (d + 1) ty a b).run P w = .ok r w:=fun d=>by
   split at h <;> simp at h <;> subst h <;> cases hx <;> cases hy <;> simp [Op.equalIn,run_underlying hu]
  exact this 9999
 ·rename_i e hu
  have:∀ d,(Op.equalIn (d + 1) ty a b).run P w = .ok r w:=fun d=>by
   split at h <;> simp at h <;> subst h <;> cases hx <;> cases hy <;> simp [Op.equalIn,run_underlying hu]
  exact this 9999
 ·simp at h
theorem eqInts_spec {xs ys:List V} {r:Bool} (h:eqInts xs ys = some r) {a b:List Value} (hx:RVs m xs a) (hy:RVs m ys b) :
  a.length = b.length ∧ ∃ z:List (IntKind × Int × Int),a = z.map (fun q=>.int q.1 q.2.1) ∧ b = z.map (fun q=>.int q.1 q.2.2) ∧ r = z.all (fun q=>q.2.1 == q.2.2):=by
 induction xs generalizing ys r a b with
 | nil =>
  cases ys <;> simp [eqInts] at h
  cases hx;cases hy
  subst h
  exact ⟨rfl,[],rfl,rfl,rfl⟩
 | cons x xs ih =>
  cases hx with
  | cons hx hxs =>
  cases ys with
  | nil=>cases x <;> simp [eqInts] at h
  | cons y ys =>
   cases hy with
   | cons hy hys =>
   cases x <;> try (simp [eqInts] at h;done)
   cases y <;> try (simp [eqInts] at h;done)
   rename_i k x k' y
   simp only [eqInts] at h
   split at h <;> try simp at h
   rename_i hk
   rw [kEq_eq] at hk
   subst hk
   split at h <;> try simp at h
   rename_i r' hr
   cases hx;cases hy
   obtain ⟨l,z,e1,e2,e3⟩:=ih hr hxs hys
   rw [eqI_eq] at h
   refine ⟨by simp [l],(k,x,y) :: z,by simp [e1],by simp [e2],?_⟩
   simp [← h,← e3]
theorem forIn_eqs (d:Nat) (elem:TypeId) (xs ys:Array Value) (w:World) (z:List (IntKind × Int × Int)) (hx:xs.toList = z.map (fun q=>.int q.1 q.2.1)) (hy:ys.toList = z.map (fun q=>.int q.1 q.2.2))
  {k:IntKind} (hu:P.underlying elem = some (.int k)) (hag:isAgg P elem = some false) (f:Nat → (Option Bool × Unit) → Sem (ForInStep ((Option Bool × Unit))))
  (hf:∀ i s,f i s = (do if !(← Op.equalIn (d + 1) elem (← part elem xs (i * 1)) (← part elem ys (i * 1))) then pure (ForInStep.done (some false,())) else pure (ForInStep.yield (none,())))) :
  ∀ (n j:Nat),j + n = z.length → (forIn (m:=Sem) (List.range' j n 1) ((none,()):(Option Bool × Unit)) f).run P w = .ok (if (z.drop j).all (fun q=>q.2.1 == q.2.2) then (none,()) else (some false,())) w:=by
 intro n
 induction n with
 | zero=>intro j hj;simp at hj;subst hj;simp
 | succ n ih =>
  intro j hj
  have hjl:j < z.length:=by omega
  obtain ⟨q,hq⟩:∃ q,z[j]? = some q:=⟨z[j],by simp [hjl]⟩
  have hdrop:z.drop j = q :: z.drop (j + 1):=by rw [List.drop_eq_getElem_cons hjl];simp [List.getElem?_eq_getElem hjl] at hq;rw [hq]
  have ex:xs[j]? = some (.int q.1 q.2.1):=by rw [← Array.getElem?_toList,hx];simp [hq]
  have ey:ys[j]? = some (.int q.1 q.2.2):=by rw [← Array.getElem?_toList,hy];simp [hq]
  have px:(part elem xs (j * 1)).run P w = .ok (.int q.1 q.2.1) w:=by simp [part,run_isAgg' hag,ex]
  have py:(part elem ys (j * 1)).run P w = .ok (.int q.1 q.2.2) w:=by simp [part,run_isAgg' hag,ey]
  have pe:(Op.equalIn (d + 1) elem (.int q.1 q.2.1) (.int q.1 q.2.2)).run P w = .ok (q.2.1 == q.2.2) w:=by simp [Op.equalIn,run_underlying hu]
  rw [List.range'_succ,List.forIn_cons,hf,hdrop]
  simp only [Sem.run_bind,px,py,pe,Result.andThen_ok]
  cases hb:(q.2.1 == q.2.2)
  ·simp [hb]
  ·simp only [Bool.not_true,Bool.false_eq_true,if_false,Sem.run_bind,Sem.run_pure,Result.andThen_ok,List.all_cons,hb,Bool.true_and]
   exact ih (j + 1) (by omega)
theorem eqFs_sound {x y:List V} {a b:Array Value} (hx:RVs m x a.toList) (hy:RVs m y b.toList) (d:Nat) (w:World):∀ {fs:List Field} {r:Bool},eqFs P x y fs = some r → (Op.eqFields (d + 1) a b fs).run P w = .ok r w
 | [],r,h=>by simp [eqFs] at h;subst h;rfl
 | f :: fs,r,h=>by
  simp only [eqFs] at h
  split at h <;> try simp at h
  rename_i k i k' j hn hu hi hj
  obtain ⟨hk,h⟩:=h
  rw [kEq_eq] at hk
  subst hk
  rw [getN_eq] at hi hj
  obtain ⟨u,hu1,hu2⟩:=hx.get _ _ hi
  obtain ⟨v,hv1,hv2⟩:=hy.get _ _ hj
  cases hu2;cases hv2
  rw [Array.getElem?_toList] at hu1 hv1
  have hag:isAgg P f.type = some false:=by simp [isAgg,hu]
  have hn':f.name ≠ "_" := by simpa using hn
  have px:(part f.type a f.offset).run P w = .ok (.int k i) w:=by simp [part,run_isAgg' hag,hu1]
  have py:(part f.type b f.offset).run P w = .ok (.int k j) w:=by simp [part,run_isAgg' hag,hv1]
  have pe:(Op.equalIn (d + 1) f.type (.int k i) (.int k j)).run P w = .ok (i == j) w:=by simp [Op.equalIn,run_underlying hu]
  simp only [Op.eqFields,if_pos hn',Sem.run_bind,px,py,pe,Result.andThen_ok]
  rw [eqI_eq] at h
  cases hb:(i == j)
  ·rw [hb] at h
   simp at h
   subst h
   simp
  ·rw [hb] at h
   simp only [if_true] at h
   simp only [Bool.not_true,Bool.false_eq_true,if_false]
   exact eqFs_sound hx hy d w h
theorem eqAggs_sound {ty:TypeId} {x y:List V} {r:Bool} {a b:Array Value} (h:eqAggs P ty x y = some r) (hx:RVs m x a.toList) (hy:RVs m y b.toList) :
  (∀ w,(Op.equal ty (.agg a) (.agg b)).run P w = .ok r w) ∧ P.eqGuardType P.depth ty = false:=by
 unfold eqAggs at h
 split at h
 ·rename_i fs hfs
  unfold fieldsT at hfs
  split at hfs <;> try simp at hfs
  rename_i fa hu
  obtain ⟨⟨h1,h2⟩,rfl⟩:=hfs
  refine ⟨fun w=>?_,h2⟩
  have hfo:P.fieldsOf ty = fa:=by simp [Program.fieldsOf,hu]
  have:=run_equalIn_struct (P:=P) w 9999 ty a b (by rw [hfo];exact hu) h1
  rw [hfo] at this
  exact this.trans (eqFs_sound hx hy 9998 w h)
 ·split at h <;> try simp at h
  rename_i hh
  rw [Bool.and_eq_true] at hh
  obtain ⟨hi,hl⟩:=hh
  have hl:x.length = lenT P ty:=by simpa using hl
  unfold intsT at hi
  split at hi
  ·rename_i n e hu
   simp only [Bool.and_eq_true,Bool.not_eq_true'] at hi
   obtain ⟨⟨h1,h2⟩,h3⟩:=hi
   split at h1 <;> try (simp at h1;done)
   rename_i k hk
   split at h2 <;> try (simp at h2;done)
   rename_i hs
   have hag:isAgg P e = some false:=by simp [isAgg,hk]
   have hn:lenT P ty = n:=by simp [lenT,hu]
   refine ⟨fun w=>?_,h3⟩
   obtain ⟨l,z,e1,e2,e3⟩:=eqInts_spec h hx hy
   have hz:0 + n = z.length:=by
    have:=hx.len
    rw [e1] at this
    simp at this
    omega
   have all:∀ d,(Op.equalIn (d + 1 + 1) ty (.agg a) (.agg b)).run P w = .ok r w:=fun d=>by
    have hfor:=forIn_eqs (P:=P) d e a b w z e1 e2 hk hag _ (fun _ _=>rfl) n 0 hz
    rw [Op.equalIn]
    simp only [Sem.run_bind,run_underlying hu,Result.andThen_ok,run_sizeOf' hs,Std.Legacy.Range.forIn_eq_forIn_range',Std.Legacy.Range.size]
    simp only [Nat.sub_zero,Nat.add_sub_cancel,Nat.div_one]
    rw [hfor]
    simp only [List.drop_zero,Result.andThen_ok,← e3]
    cases r <;> rfl
   exact all 9998
  ·simp at hi
theorem binA_sound {op:BinOp} {ty:TypeId} {x y:List V} {v:V} {a b:Array Value} (h:binA P op ty x y = some v) (hx:RVs m x a.toList) (hy:RVs m y b.toList) (ox oy:Operand) :
  Yes P m (do eqGuard op ty ox oy (.agg a) (.agg b);Go.binOp op ty (.agg a) (.agg b)) v:=by
 unfold binA at h
 have hg:P.eqGuardType P.depth ty = false → ∀ w,(eqGuard op ty ox oy (.agg a) (.agg b)).run P w = .ok () w:=fun h3 w=>by cases op <;> simp [eqGuard,h3]
 split at h <;> try simp at h
 ·split at h <;> simp at h
  subst h
  rename_i r hr
  obtain ⟨key,h3⟩:=eqAggs_sound hr hx hy
  exact ⟨_,.b,fun w=>by simp [Sem.run_bind,hg h3,Go.binOp,key]⟩
 ·split at h <;> simp at h
  subst h
  rename_i r hr
  obtain ⟨key,h3⟩:=eqAggs_sound hr hx hy
  exact ⟨_,.b,fun w=>by simp [Sem.run_bind,hg h3,Go.binOp,key]⟩
end
section
variable {P:Program} {m:M}
theorem unV_sound {op:UnOp} {x v:V} {a:Value} (h:unV op x = some v) (hx:RV m x a):Yes P m (Op.unary op a) v:=by
 unfold unV at h
 split at h <;> try simp at h
 ·cases hx
  have:=mkI_some h;subst this
  rw [wrapQ_eq]
  exact ⟨_,.i,fun w=>rfl⟩
 ·cases hx
  subst h
  exact ⟨_,.b,fun w=>by simp [Op.unary]⟩
theorem fieldOf_some {t:TypeId} {f:Nat} {fd:Field} (h:fieldOf P t f = some fd):∃ fs,P.underlying t = some (.struct fs) ∧ fs[f]? = some fd:=by
 unfold fieldOf at h
 split at h
 ·exact ⟨_,‹_›,h⟩
 ·simp at h
theorem field_sound {t:TypeId} {f:Nat} {fd:Field} {l:List V} {cs:Array Value} {v:V} (hf:fieldOf P t f = some fd) (h:partV P fd.type l fd.offset = some v) (hl:RVs m l cs.toList) (h1:∀ x ∈ l,x.one = true):Yes P m (Instr.field t (.agg cs) f) v:=by
 obtain ⟨fs,hu,hfd⟩:=fieldOf_some hf
 obtain ⟨rv,hr,hw⟩:=partV_sound h hl h1
 exact ⟨rv,hr,fun w=>by simp [Instr.field,run_underlying hu,hfd,asAgg,hw]⟩
theorem fieldA_sound {t:TypeId} {f:Nat} {fd:Field} {id off n:Nat} {a:Value} (hf:fieldOf P t f = some fd) (hs:sz P fd.type = some (n + 1)) (hx:RV m (.p id off) a):Yes P m (Instr.fieldAt t a f) (.p id (off + fd.offset)):=by
 obtain ⟨fs,hu,hfd⟩:=fieldOf_some hf
 cases hx with
 | p h =>
  refine ⟨_,.p h,fun w=>?_⟩
  simp [Instr.fieldAt,run_underlying hu,hfd,Instr.sureAddr,fieldPlace,run_sizeOf' hs,Addr.add_eq,Nat.add_assoc]
theorem indexA_sound {t:TypeId} {x i v:V} {a b:Value} (h:indexA P t x i = some v) (hx:RV m x a) (hi:RV m i b):Yes P m (Instr.indexAt t a b) v:=by
 unfold indexA at h
 split at h <;> try simp at h
 cases hi
 rename_i k n
 split at h <;> try simp at h
 ·rename_i e id off len z hu
  split at h <;> try simp at h
  rename_i z' hz
  obtain ⟨⟨hzz,hn⟩,rfl⟩:=h
  subst hzz
  cases hx with
  | sl hm hl hs ho =>
   have ho':=ho.resolve_right (by omega)
   subst ho'
   refine ⟨_,.p hm,fun w=>?_⟩
   have h0:(0:Int) ≤ (n:Int) ∧ (n:Int) < (len:Int):=by omega
   simp [Instr.indexAt,asIntOf,run_underlying hu,run_sizeOf' hz,h0,Addr.add_eq,Nat.add_assoc]
   intro hh;omega
 ·rename_i len e id off hu
  split at h <;> try simp at h
  rename_i z hz
  obtain ⟨hn,rfl⟩:=h
  cases hx with
  | p hm =>
   refine ⟨_,.p hm,fun w=>?_⟩
   have h0:(0:Int) ≤ (n:Int) ∧ (n:Int) < (len:Int):=by omega
   simp [Instr.indexAt,asIntOf,run_underlying hu,run_sizeOf' hz,h0,Addr.add_eq,Nat.add_assoc,Instr.sureAddr]
   intro hh;omega
theorem getS_eq (l:List Nat) (n:Nat):getS l n = l[n]?:=by
 induction l generalizing n with
 | nil=>simp [getS]
 | cons x l ih=>cases n <;> simp [getS,ih]
theorem bytesV_get (l:List Nat) (n:Nat):(bytesV l)[n]? = (l[n]?).map UInt8.ofNat:=by
 simp only [bytesV,getElem?_def]
 by_cases h:n < l.length
 ·have h2:n < (ByteArray.mk (l.map UInt8.ofNat).toArray).size:=by simp [ByteArray.size];exact h
  simp [h,h2]
  simp [ByteArray.getElem_eq_getElem_data]
 ·have h2:¬ n < (ByteArray.mk (l.map UInt8.ofNat).toArray).size:=by simp [ByteArray.size];omega
  simp [h]
  simpa [ByteArray.size] using h
theorem bytesV_size (l:List Nat):(bytesV l).size = l.length:=by simp [bytesV,ByteArray.size]
theorem indexV_sound {t:TypeId} {x i v:V} {a b:Value} (h:indexV P t x i = some v) (hx:RV m x a) (hi:RV m i b):Yes P m (Instr.index t a b) v:=by
 unfold indexV at h
 split at h <;> try simp at h
 cases hi
 rename_i k n
 split at h <;> try simp at h
 ·rename_i len e cs hu
  split at h <;> try simp at h
  rename_i z hz
  obtain ⟨hn,h⟩:=h
  cases hx with
  | a hl h1 =>
   obtain ⟨rv,hr,hw⟩:=partV_sound h hl h1
   refine ⟨rv,hr,fun w=>?_⟩
   have h0:(0:Int) ≤ (n:Int) ∧ (n:Int) < (len:Int):=by omega
   simp [Instr.index,asIntOf,run_underlying hu,run_sizeOf' hz,h0,hw]
   intro hh;omega
 ·rename_i s hu
  split at h <;> try simp at h
  rename_i c hc
  subst h
  rw [getS_eq] at hc
  cases hx with
  | s hs =>
   have hlt:=hs c (List.mem_of_getElem? hc)
   have e:(bytesV s)[n]? = some (UInt8.ofNat c):=by rw [bytesV_get,hc];rfl
   refine ⟨.int .u8 (c:Int),.i,fun w=>?_⟩
   simp [Instr.index,asIntOf,run_underlying hu,e,Nat.mod_eq_of_lt hlt]
theorem bound_some {x:Option V} {d y n:Nat} (h:bound x d y = some n):(x = none ∧ n = d) ∨ (∃ k,x = some (.i k (n:Int)) ∧ n ≤ y):=by
 unfold bound at h
 split at h <;> try simp at h
 ·exact .inl ⟨rfl,h.symm⟩
 ·rename_i k q
  obtain ⟨hq,rfl⟩:=h
  exact .inr ⟨k,rfl,hq⟩
inductive RO (m:M):Option V → Option Value → Prop where
 | none:RO m none none
 | some {x v} (h:RV m x v):RO m (some x) (some v)
theorem RO.int {x:Option Value} {k:IntKind} {n:Int} (h:RO m (Option.some (V.i k n)) x):x = Option.some (Value.int k n):=by
 cases h with | some h=>cases h;rfl
theorem bounds_sound {isS:Bool} {len cap hh l:Nat} {lo hi:Option V} {a b:Option Value} (hlo:RO m lo a) (hhi:RO m hi b) (h1:bound hi len len = some hh) (h2:bound lo 0 hh = some l) (hc:len ≤ cap) (w:World) :
  (Instr.sliceBounds isS len cap a b none).run P w = .ok (l,hh,cap) w ∧ l ≤ hh ∧ hh ≤ len:=by
 have e1:hh ≤ len:=by rcases bound_some h1 with ⟨_,h⟩ | ⟨_,_,h⟩ <;> omega
 have e2:l ≤ hh:=by rcases bound_some h2 with ⟨_,h⟩ | ⟨_,_,h⟩ <;> omega
 refine ⟨?_,e2,e1⟩
 have hb:∀ (k:IntKind) (n y:Nat) (c:BoundsCode),n ≤ y → (Instr.sliceBound (.int k (n:Int)) y c).run P w = .ok n w:=fun k n y c hn=>by
  have:=run_sliceBound (P:=P) w k (n:Int) y c (by omega) (by omega)
  simpa using this
 rcases bound_some h1 with ⟨rfl,rfl⟩ | ⟨k,rfl,hle⟩ <;> rcases bound_some h2 with ⟨rfl,rfl⟩ | ⟨k',rfl,hle'⟩
 ·cases hlo;cases hhi;simp [Instr.sliceBounds]
 ·cases hhi;obtain rfl:=hlo.int;simp [Instr.sliceBounds,hb _ _ _ _ hle']
 ·cases hlo;obtain rfl:=hhi.int;simp [Instr.sliceBounds,hb _ _ _ _ (Nat.le_trans hle hc)]
 ·obtain rfl:=hlo.int;obtain rfl:=hhi.int;simp [Instr.sliceBounds,hb _ _ _ _ (Nat.le_trans hle hc),hb _ _ _ _ hle']
theorem dropS_eq (n:Nat) (l:List Nat):dropS n l = l.drop n:=by
 induction n generalizing l with
 | zero=>rfl
 | succ n ih=>cases l <;> simp [dropS,ih]
theorem takeS_eq (n:Nat) (l:List Nat):takeS n l = l.take n:=by
 induction n generalizing l with
 | zero=>rfl
 | succ n ih=>cases l <;> simp [takeS,ih]
theorem bytesV_extract (s:List Nat) (l h:Nat):(bytesV s).extract l h = bytesV ((s.take h).drop l):=by
 apply ByteArray.ext
 simp [bytesV,ByteArray.data_extract,List.extract_eq_take_drop,List.drop_take]
theorem sliceV_sound {t:TypeId} {x v:V} {lo hi:Option V} {a:Value} {b c:Option Value} (h:sliceV P t x lo hi = some v) (hx:RV m x a) (hlo:RO m lo b) (hhi:RO m hi c):Yes P m (Instr.sliceAt t a b c none) v:=by
 unfold sliceV at h
 split at h <;> try simp at h
 ·rename_i s hu
  split at h <;> try simp at h
  rename_i hh h1
  split at h <;> try simp at h
  rename_i l h2
  subst h
  cases hx with
  | s hs =>
   refine ⟨.string (bytesV (dropS l (takeS hh s))),.s (fun n hn=>hs n ?_),fun w=>?_⟩
   ·rw [dropS_eq,takeS_eq] at hn;exact List.mem_of_mem_take (List.mem_of_mem_drop hn)
   ·obtain ⟨e,_,_⟩:=bounds_sound (P:=P) (isS:=false) hlo hhi h1 h2 (Nat.le_refl _) w
    rw [← bytesV_size s] at e
    simp only [Instr.sliceAt,Sem.run_bind,run_underlying hu,Result.andThen_ok,Instr.slice,Option.isSome_none,Bool.false_eq_true,if_false]
    simp only [Sem.run_pure,Result.andThen_ok,e,bytesV_extract,dropS_eq,takeS_eq]
 ·rename_i el hu
  split at h <;> try simp at h
  rename_i q hq
  split at h <;> try simp at h
  rename_i hh h1
  split at h <;> try simp at h
  rename_i l h2
  subst h
  cases hx
  refine ⟨_,.ns,fun w=>?_⟩
  obtain ⟨e,e1,e2⟩:=bounds_sound (P:=P) (isS:=true) hlo hhi h1 h2 (Nat.le_refl _) w
  have:hh = 0:=by omega
  subst this
  have:l = 0:=by omega
  subst this
  simp [Instr.sliceAt,run_underlying hu,Instr.slice,e,run_sizeOf' hq]
 ·rename_i el id off len z hu
  split at h <;> try simp at h
  rename_i z' hq
  obtain ⟨hzz,h⟩:=h
  subst hzz
  split at h <;> try simp at h
  rename_i hh h1
  split at h <;> try simp at h
  rename_i l h2
  subst h
  cases hx with
  | @sl _ _ _ _ r sh z o cap hm hl hs ho =>
   have hle:=bounds_sound (P:=P) (isS:=true) hlo hhi h1 h2 hl default
   have hcap:l * z' + (cap - l) * z' = cap * z':=by rw [← Nat.add_mul];congr 1;omega
   refine ⟨.slice (if cap = l then some ⟨r,o,none⟩ else some ⟨r,o + l * z',none⟩) (hh - l) (cap - l),?_,fun w=>?_⟩
   ·by_cases hc:cap = l
    ·rw [if_pos hc]
     exact .sl hm (by omega) (by omega) (.inr (by omega))
    ·rw [if_neg hc]
     have ho':=ho.resolve_right (by omega)
     subst ho'
     exact .sl hm (by omega) (by omega) (.inl (by omega))
   ·obtain ⟨e,e1,e2⟩:=bounds_sound (P:=P) (isS:=true) hlo hhi h1 h2 hl w
    simp [Instr.sliceAt,run_underlying hu,Instr.slice,e,run_sizeOf' hq,Addr.add_eq]
theorem extract_sound {l:List V} {v:V} {i:Nat} {a:Value} (h:getN l i = some v) (hx:RV m (.t l) a):Yes P m (Instr.extract a i) v:=by
 rw [getN_eq] at h
 cases hx with
 | t hl =>
  obtain ⟨rv,hv,hr⟩:=hl.get i v h
  refine ⟨rv,hr,fun w=>?_⟩
  rw [Array.getElem?_toList] at hv
  simp [Instr.extract,hv]
theorem lenV_sound {ty rt:TypeId} {x:V} {a:Value} {n:Nat} (h:lenV P ty x = some n) (hx:RV m x a) (w:World) (tys:Array TypeId) (ht:tys[0]? = some ty):(Builtin.len_ tys rt #[a]).run P w = .ok (goInt n) w:=by
 unfold lenV at h
 split at h <;> try simp at h
 ·rename_i hu;subst h;cases hx;simp [Builtin.len_,ht,run_underlying hu]
 ·rename_i hu;subst h;cases hx;simp [Builtin.len_,ht,run_underlying hu]
 ·rename_i hu;subst h;cases hx;simp [Builtin.len_,ht,run_underlying hu,bytesV_size]
theorem minmaxFrom_sound {mx:Bool} {k:IntKind} {l:List V} {v:V}:∀ {a:Int} {r:List Value},minmaxFrom mx k a l = some v → RVs m l r → ∃ rv,RV m v rv ∧ ∀ w,(r.foldlM (if mx then Builtin.max2 else Builtin.min2) (.int k a)).run P w = .ok rv w:=by
 induction l with
 | nil=>intro a r h hl;simp [minmaxFrom] at h;subst h;cases hl;exact ⟨_,.i,fun w=>rfl⟩
 | cons x l ih =>
  intro a r h hl
  cases x <;> try (simp [minmaxFrom] at h;done)
  rename_i k' b
  cases hl with
  | cons hx hs =>
   cases hx
   simp only [minmaxFrom] at h
   split at h <;> try simp at h
   rename_i hk
   rw [kEq_eq] at hk
   subst hk
   obtain ⟨rv,hr,hw⟩:=ih h hs
   refine ⟨rv,hr,fun w=>?_⟩
   rw [List.foldlM_cons,Sem.run_bind]
   cases mx <;> simp only [ltI_eq,decide_eq_true_eq,Bool.false_eq_true,if_false,if_true] at hw ⊢
   ·simp only [Builtin.min2,Sem.run_pure,Result.andThen_ok];exact hw w
   ·simp only [Builtin.max2,Sem.run_pure,Result.andThen_ok];exact hw w
theorem minmax_sound {mx:Bool} {l:List V} {v:V} {r:Array Value} (h:minmax mx l = some v) (hl:RVs m l r.toList) (tys:Array TypeId) (rt:TypeId):Yes P m (if mx then Builtin.max_ tys rt r else Builtin.min_ tys rt r) v:=by
 unfold minmax at h
 split at h <;> try simp at h
 generalize hr:r.toList = rl at hl
 cases hl with
 | cons hx hs =>
  cases hx
  obtain ⟨rv,h1,hw⟩:=minmaxFrom_sound (P:=P) h hs
  refine ⟨rv,h1,fun w=>?_⟩
  have:=hw w
  cases mx <;> simp only [Bool.false_eq_true,if_false,if_true] at this ⊢
  ·simp only [Builtin.min_,hr];exact this
  ·simp only [Builtin.max_,hr];exact this
end
section
variable {P:Program} {m:M}
theorem evo_sound {t:Tm} {a:Act} (ht:TR m t a) {x:Option Operand} {v:Option V} (h:evo t x = some v):RO m v (x.map a.eval):=by
 cases x with
 | none=>simp [evo] at h;subst h;exact .none
 | some x =>
  simp only [evo] at h
  split at h <;> simp at h
  subst h
  exact .some (ev_sound ht ‹_›)
theorem Gives.of {ρ:Operand → Value} {o:Oper} {v:V} {s:Sem Value} (h:Yes P m s v) (he:∀ w,(execOp ρ o).run P w = (do pure (.value (← s)):Sem Next).run P w):Gives P m ρ o v:=by
 obtain ⟨rv,hr,hw⟩:=h
 exact ⟨rv,hr,fun w=>by rw [he w];simp [hw]⟩
theorem binT_sound {t:Tm} {a:Act} (ht:TR m t a) {op:BinOp} {ty:TypeId} {x y:Operand} {v:V} (h:oBin P t op ty x y = some v) :
  Yes P m (do eqGuard op ty x y (a.eval x) (a.eval y);Go.binOp op ty (a.eval x) (a.eval y)) v:=by
 unfold oBin at h
 split at h <;> try simp at h
 rename_i u u' hx hy
 have rx:=ev_sound ht hx
 have ry:=ev_sound ht hy
 generalize a.eval x = p at *
 generalize a.eval y = q at *
 unfold binT at h
 split at h
 ·cases rx;cases ry
  unfold binI at h
  have hg:∀ (k k':IntKind) (i j:Int),eqGuard op ty x y (.int k i) (.int k' j) = pure ():=fun k k' i j=>by cases op <;> rfl
  split at h
  ·obtain ⟨rv,h1,h2⟩:=shiftOp_sound (P:=P) (m:=m) h ty
   exact ⟨rv,h1,fun w=>by rw [hg];simpa using h2 w⟩
  ·obtain ⟨rv,h1,h2⟩:=shiftOp_sound (P:=P) (m:=m) h ty
   exact ⟨rv,h1,fun w=>by rw [hg];simpa using h2 w⟩
  ·split at h <;> try simp at h
   rename_i hk
   rw [kEq_eq] at hk
   subst hk
   obtain ⟨rv,h1,h2⟩:=intOp_sound (P:=P) (m:=m) h ty ⟨by assumption,by assumption⟩
   exact ⟨rv,h1,fun w=>by rw [hg];simpa using h2 w⟩
 ·cases rx with
  | s h1=>cases ry with
   | s h2 =>
    have hg:∀ (i j:ByteArray),eqGuard op ty x y (.string i) (.string j) = pure ():=fun i j=>by cases op <;> rfl
    obtain ⟨rv,h1,h2⟩:=strOp_sound (P:=P) (m:=m) h h1 h2 ty
    exact ⟨rv,h1,fun w=>by rw [hg];simpa using h2 w⟩
 ·cases rx with
  | a h1 _=>cases ry with
   | a h2 _=>exact binA_sound h h1 h2 x y
 ·rename_i n1 n2 n3
  unfold binE at h
  have key:∀ r,eqAtom P ty u u' = some r → (∀ w,(Op.equal ty p q).run P w = .ok r w):=fun r hr=>eqAtom_sound hr rx ry
  have shape:∀ r,eqAtom P ty u u' = some r → eqGuard op ty x y p q = pure () ∧ Go.binOp .eql ty p q = (do pure (.bool (← Op.equal ty p q))) ∧ Go.binOp .neq ty p q = (do pure (.bool (!(← Op.equal ty p q)))):=by
   intro r hr
   unfold eqAtom at hr
   split at hr <;> try simp at hr
   all_goals (split at hr <;> try simp at hr)
   all_goals (cases rx <;> cases ry <;> (refine ⟨?_,rfl,rfl⟩;cases op <;> rfl))
  split at h <;> try simp at h
  ·split at h <;> simp at h
   subst h
   rename_i r hr
   obtain ⟨g1,g2,_⟩:=shape r hr
   exact ⟨_,.b,fun w=>by rw [g1,g2];simp [key r hr]⟩
  ·split at h <;> simp at h
   subst h
   rename_i r hr
   obtain ⟨g1,_,g2⟩:=shape r hr
   exact ⟨_,.b,fun w=>by rw [g1,g2];simp [key r hr]⟩
theorem run_builtin (ρ:Operand → Value) (o:Oper) (c:Call) (b:Builtin) (ho:o.op = .call c) (hb:c.callee = .builtin b) :
  execOp ρ o = builtin b c.argTypes o.type (c.args.map fun | .const _=>true | _=>false) (c.args.map ρ):=by
 unfold execOp
 simp only [ho,resolve,hb]
 rfl
theorem callP_sound {t:Tm} {a:Act} (ht:TR m t a) {o:Oper} {c:Call} (ho:o.op = .call c) {v:V} (h:oCallP P t c = some v):Gives P m a.eval o v:=by
 unfold oCallP at h
 split at h <;> try simp at h
 rename_i b hb
 unfold oBuiltin at h
 have hargs:∀ {l},evs t c.args.toList = some l → RVs m l (c.args.map a.eval).toList:=fun hl=>by simpa using evs_sound ht hl
 split at h <;> try simp at h
 ·unfold oLen at h
  split at h <;> try simp at h
  rename_i x ty hx hty
  split at h <;> try simp at h
  rename_i n hn
  subst h
  have:=hargs hx
  generalize hz:c.args.map a.eval = z at this
  obtain ⟨z⟩:=z
  cases this with
  | cons h1 h2 =>
   cases h2
   refine ⟨.int .i64 (n:Int),.i,fun w=>?_⟩
   rw [run_builtin _ o c _ ho hb,hz]
   simp [builtin,lenV_sound hn h1 w c.argTypes hty,goInt]
 ·unfold oMM at h
  split at h <;> try simp at h
  rename_i l hl
  have:=minmax_sound (P:=P) h (hargs hl) c.argTypes o.type
  refine Gives.of this fun w=>?_
  rw [run_builtin _ o c _ ho hb]
  rfl
 ·unfold oMM at h
  split at h <;> try simp at h
  rename_i l hl
  have:=minmax_sound (P:=P) h (hargs hl) c.argTypes o.type
  refine Gives.of this fun w=>?_
  rw [run_builtin _ o c _ ho hb]
  rfl
theorem pureV_sound {t:Tm} {a:Act} (ht:TR m t a) {o:Oper} {v:V} (h:pureV P t o.op = some v):Gives P m a.eval o v:=by
 unfold pureV at h
 split at h <;> try simp at h
 case h_1 x ho=>exact ⟨_,ev_sound ht h,fun w=>by simp [execOp,ho]⟩
 case h_2 x ho=>exact ⟨_,ev_sound ht h,fun w=>by simp [execOp,ho]⟩
 case h_3 c x y ho =>
  unfold oPick at h
  split at h <;> try simp at h
  ·rename_i hc
   have:=ev_sound ht hc
   generalize hg:a.eval c = q at this
   cases this
   exact ⟨_,ev_sound ht h,fun w=>by simp [execOp,ho,hg,asBool]⟩
  ·rename_i hc
   have:=ev_sound ht hc
   generalize hg:a.eval c = q at this
   cases this
   exact ⟨_,ev_sound ht h,fun w=>by simp [execOp,ho,hg,asBool]⟩
 case h_4 ty parts ho =>
  unfold oBuild at h
  split at h <;> try simp at h
  rename_i ps hp
  have:=evp_sound ht hp
  have hb:=buildV_sound (P:=P) (qs:=parts.map fun (i,x)=>(i,a.eval x)) h (by simpa using this)
  exact Gives.of hb fun w=>by simp [execOp,ho]
 case h_5 x ho =>
  unfold oNil at h
  split at h <;> try simp at h
  rename_i hx
  subst h
  have:=ev_sound ht hx
  generalize hg:a.eval x = q at this
  cases this with
  | p hm=>exact ⟨_,.p hm,fun w=>by simp [execOp,ho,hg]⟩
 case h_6 op ty x y yt ho=>exact Gives.of (binT_sound ht h) fun w=>by simp [execOp,ho]
 case h_7 op ty x ho =>
  unfold oUn at h
  split at h <;> try simp at h
  exact Gives.of (unV_sound h (ev_sound ht ‹_›)) fun w=>by simp [execOp,ho]
 case h_8 src b x ho =>
  unfold oConv at h
  split at h <;> try simp at h
  ·rename_i k n d k' hx hs hu
   have:=mkI_some h;subst this
   rw [wrapQ_eq]
   have rx:=ev_sound ht hx
   generalize hg:a.eval x = q at rx
   cases rx
   exact ⟨_,.i,fun w=>by simp [execOp,ho,hg,convert,run_underlying hs,run_underlying hu,Conv.intToInt]⟩
  ·rename_i l d hx hs hu
   subst h
   have rx:=ev_sound ht hx
   generalize hg:a.eval x = q at rx
   cases rx with
   | s h1=>exact ⟨_,.s h1,fun w=>by simp [execOp,ho,hg,convert,run_underlying hs,run_underlying hu]⟩
 case h_9 fn first cap ho =>
  unfold oFunc at h
  split at h <;> try simp at h
  rename_i f l c h1 h2
  subst h
  exact ⟨.func (.func f) (first.map a.eval) (cap.map a.eval),.f (by simpa using evs_sound ht h1) (by simpa using evs_sound ht h2),fun w=>by simp [execOp,ho,Instr.makeFunc]⟩
 case h_10 ty x lo hi mx ho =>
  unfold oSlice at h
  split at h <;> try simp at h
  exact Gives.of (sliceV_sound h (ev_sound ht ‹_›) (evo_sound ht ‹_›) (evo_sound ht ‹_›)) fun w=>by simp [execOp,ho]
 case h_11 ty x f ho =>
  unfold oFieldA at h
  split at h <;> try simp at h
  split at h <;> try simp at h
  subst h
  exact Gives.of (fieldA_sound ‹_› ‹_› (ev_sound ht ‹_›)) fun w=>by simp [execOp,ho]
 case h_12 ty x f ho =>
  unfold oField at h
  split at h <;> try simp at h
  rename_i hx hf
  have rx:=ev_sound ht hx
  generalize hg:a.eval x = q at rx
  cases rx with
  | a h1 h2=>exact Gives.of (field_sound hf h h1 h2) fun w=>by simp [execOp,ho,hg]
 case h_13 ty x i ho =>
  unfold oIndexA at h
  split at h <;> try simp at h
  exact Gives.of (indexA_sound h (ev_sound ht ‹_›) (ev_sound ht ‹_›)) fun w=>by simp [execOp,ho]
 case h_14 ty x i ho =>
  unfold oIndex at h
  split at h <;> try simp at h
  exact Gives.of (indexV_sound h (ev_sound ht ‹_›) (ev_sound ht ‹_›)) fun w=>by simp [execOp,ho]
 case h_15 x i ho =>
  unfold oExtract at h
  split at h <;> try simp at h
  exact Gives.of (extract_sound h (ev_sound ht ‹_›)) fun w=>by simp [execOp,ho]
 case h_16 c ho=>exact callP_sound ht ho h
end
section
variable {P:Program} {m:M}
theorem T.get_e (k d:Nat):T.get k d .e = none:=by cases d <;> rfl
theorem T.get_set (id k:Nat) (v:Option O):∀ (d:Nat) (t:T),T.get k d (T.set id v d t) = if (∀ i,i < d → bit k i = bit id i) then v else T.get k d t
 | 0,t=>by cases t <;> simp <;> rfl
 | d + 1,t=>by
  have hiff:(∀ i,i < d + 1 → bit k i = bit id i) ↔ bit k d = bit id d ∧ ∀ i,i < d → bit k i = bit id i :=
   ⟨fun h=>⟨h d (by omega),fun i hi=>h i (by omega)⟩,fun h i hi=>by rcases Nat.lt_succ_iff_lt_or_eq.1 hi with h' | rfl;exact h.2 i h';exact h.1⟩
  cases t with
  | e =>
   show T.get k (d + 1) (@Bool.rec (fun _=>T) (.n (T.set id v d .e) none .e) (.n .e none (T.set id v d .e)) (bit id d)) = _
   cases hb:bit id d
   ·show @Bool.rec (fun _=>Option O) (T.get k d (T.set id v d .e)) (T.get k d .e) (bit k d) = _
    cases hk:bit k d
    ·simp only [T.get_set id k v d];simp [hiff,hb,hk,T.get_e]
    ·simp [hiff,hb,hk,T.get_e]
   ·show @Bool.rec (fun _=>Option O) (T.get k d .e) (T.get k d (T.set id v d .e)) (bit k d) = _
    cases hk:bit k d
    ·simp [hiff,hb,hk,T.get_e]
    ·simp only [T.get_set id k v d];simp [hiff,hb,hk,T.get_e]
  | n l x r =>
   show T.get k (d + 1) (@Bool.rec (fun _=>T) (.n (T.set id v d l) x r) (.n l x (T.set id v d r)) (bit id d)) = if _ then v else @Bool.rec (fun _=>Option O) (T.get k d l) (T.get k d r) (bit k d)
   cases hb:bit id d
   ·show @Bool.rec (fun _=>Option O) (T.get k d (T.set id v d l)) (T.get k d r) (bit k d) = _
    cases hk:bit k d
    ·simp only [T.get_set id k v d];simp [hiff,hb,hk]
    ·simp [hiff,hb,hk]
   ·show @Bool.rec (fun _=>Option O) (T.get k d l) (T.get k d (T.set id v d r)) (bit k d) = _
    cases hk:bit k d
    ·simp [hiff,hb,hk]
    ·simp only [T.get_set id k v d];simp [hiff,hb,hk]
theorem bit_eq (id d:Nat):bit id d = id.testBit d:=by
 simp only [bit,Nat.testBit]
 rw [Bool.eq_iff_iff]
 show Nat.beq ((id >>> d) &&& 1) 1 = true ↔ _
 rw [Nat.and_comm]
 have:1 &&& id >>> d = 0 ∨ 1 &&& id >>> d = 1:=by
  have:=Nat.and_one_is_mod (id >>> d)
  rw [Nat.and_comm] at this
  omega
 rcases this with h | h <;> simp [h]
theorem H.obj_lt {h:H} {id:Nat} {o:O} (ho:h.obj id = some o):id < 2048:=by
 unfold H.obj at ho
 split at ho
 ·rename_i hh;rwa [Nat.blt_eq] at hh
 ·simp at ho
theorem H.obj_upd (h:H) {id:Nat} (hid:id < 2048) (o:Option O) (k:Nat):(h.upd id o).obj k = if k = id then o else h.obj k:=by
 unfold H.obj H.upd
 by_cases hk:k < 2048
 ·have e:Nat.blt k 2048 = true:=by rw [Nat.blt_eq];exact hk
  simp only [e,if_true,T.get_set]
  congr 1
  simp only [bit_eq,eq_iff_iff]
  constructor
  ·intro hh
   apply Nat.eq_of_testBit_eq
   intro i
   by_cases hi:i < 11
   ·exact hh i hi
   ·rw [Nat.testBit_lt_two_pow (Nat.lt_of_lt_of_le hk (Nat.pow_le_pow_right (n:=2) (by decide) (by omega:11 ≤ i))),Nat.testBit_lt_two_pow (Nat.lt_of_lt_of_le hid (Nat.pow_le_pow_right (n:=2) (by decide) (by omega:11 ≤ i)))]
  ·rintro rfl _ _;rfl
 ·have e:Nat.blt k 2048 = false:=by rw [Bool.eq_false_iff];intro hh;rw [Nat.blt_eq] at hh;exact hk hh
  simp only [e,Bool.false_eq_true,if_false]
  rw [if_neg (by omega)]
inductive MR (m:M):List (V × V) → List MapEntry → Prop where
 | nil:MR m [] []
 | cons {k v e l r} (hk:RV m k e.key) (hv:RV m v e.val) (hs:MR m l r):MR m ((k,v) :: l) (e :: r)
theorem MR.mono {m m':M} (hm:m.le m') {l:List (V × V)} {r:List MapEntry} (h:MR m l r):MR m' l r:=by
 induction h with
 | nil=>exact .nil
 | cons a b _ ih=>exact .cons (a.mono hm) (b.mono hm) ih
theorem MR.snoc {l:List (V × V)} {r:List MapEntry} (h:MR m l r) {k v:V} {e:MapEntry} (hk:RV m k e.key) (hv:RV m v e.val):MR m (l ++ [(k,v)]) (r ++ [e]):=by
 induction h with
 | nil=>exact .cons hk hv .nil
 | cons a b _ ih=>exact .cons a b ih
inductive ObR (m:M):O → Nat → Nat → Obj → Prop where
 | row {ap l sh z c e fr} (hz:c.size = z) (hl:sh + l.length ≤ z) (hc:RVs m l ((c.toList.drop sh).take l.length)) (h1:∀ x ∈ l,x.one = true)
   (hf:ap = true → fr = (0,0)) (hf':∀ j,j < l.length → ¬ (fr.1 ≤ sh + j ∧ sh + j < fr.2)):ObR m (.row ap l) sh z (.cells c e fr)
 | map {l sh z es clock} (h:MR m l es.toList):ObR m (.map l) sh z (.map es clock)
 | it {l pos z} (h:∀ n ∈ l,n < 256):ObR m (.it l pos) 0 z (.stringIter (bytesV l) pos)
theorem ObR.mono {m m':M} (hm:m.le m') {o:O} {sh z:Nat} {ob:Obj} (h:ObR m o sh z ob):ObR m' o sh z ob:=by
 cases h with
 | row a b c d e f=>exact .row a b (c.mono hm) d e f
 | map h=>exact .map (h.mono hm)
 | it h=>exact .it h
structure In (w0:World) (m:M) (s:St) (w:World):Prop where
 obj:∀ {id o},s.h.obj id = some o → ∃ r sh z ob,m id = some (r,sh,z) ∧ w0.heap.size ≤ r ∧ w.heap[r]? = some ob ∧ ObR m o sh z ob
 inj:∀ {id id' o o' r sh z r' sh' z'},s.h.obj id = some o → s.h.obj id' = some o' → id ≠ id' → m id = some (r,sh,z) → m id' = some (r',sh',z') → r ≠ r'
 fresh:∀ {id},s.nx ≤ id → m id = none
 below:Below w0.heap.size w0 w
def M.ext (m:M) (id:Nat) (x:Nat × Nat × Nat):M:=fun k=>if k = id then some x else m k
theorem M.le_ext {m:M} {id:Nat} {x:Nat × Nat × Nat} (h:m id = none):m.le (m.ext id x):=fun k y hk=>by
 unfold M.ext
 split
 ·subst_vars;rw [h] at hk;cases hk
 ·exact hk
theorem M.ext_self (m:M) (id:Nat) (x:Nat × Nat × Nat):m.ext id x id = some x:=by simp [M.ext]
theorem In.drew {w0 w:World} {s:St} (h:In w0 m s w):In w0 m s w.drew:=⟨h.obj,h.inj,h.fresh,h.below.drew⟩
theorem In.nx_obj {w0 w:World} {s:St} (h:In w0 m s w) {id:Nat} (hn:s.nx ≤ id):s.h.obj id = none:=by
 cases ho:s.h.obj id with
 | none=>rfl
 | some o=>obtain ⟨r,sh,z,ob,hm,_⟩:=h.obj ho;rw [h.fresh hn] at hm;cases hm
theorem In.new {w0 w:World} {s:St} (h:In w0 m s w) (hn:s.nx < 2048) {o:O} {z:Nat} {ob:Obj} (hob:ObR m o 0 z ob) :
  m.le (m.ext s.nx (w.heap.size,0,z)) ∧ In w0 (m.ext s.nx (w.heap.size,0,z)) ⟨s.h.upd s.nx (some o),s.nx + 1⟩ (w.alloc ob):=by
 have hm0:=h.fresh (Nat.le_refl _)
 have hle:m.le (m.ext s.nx (w.heap.size,0,z)):=M.le_ext hm0
 have hlt:∀ {id o r sh z},s.h.obj id = some o → m id = some (r,sh,z) → r < w.heap.size:=by
  intro id o r sh z ho hm
  obtain ⟨r',sh',z',ob',hm',_,hr,_⟩:=h.obj ho
  rw [hm] at hm'
  cases hm'
  exact (Array.getElem?_eq_some_iff.1 hr).1
 refine ⟨hle,⟨?_,?_,?_,h.below.alloc h.below.size ob⟩⟩
 ·intro id o' ho'
  rw [H.obj_upd _ hn] at ho'
  split at ho'
  ·cases ho'
   subst_vars
   refine ⟨w.heap.size,0,z,ob,M.ext_self _ _ _,h.below.size,?_,hob.mono hle⟩
   show (w.heap.push ob)[w.heap.size]? = _
   simp
  ·obtain ⟨r,sh,z',ob',hm',h1,h2,h3⟩:=h.obj ho'
   refine ⟨r,sh,z',ob',hle _ _ hm',h1,?_,h3.mono hle⟩
   rw [Below.heap_alloc _ _ _ (hlt ho' hm')]
   exact h2
 ·intro id id' o1 o2 r sh z1 r' sh' z1' ho ho' hne hm hm'
  rw [H.obj_upd _ hn] at ho ho'
  unfold M.ext at hm hm'
  by_cases e:id = s.nx
  ·subst e
   rw [if_pos rfl] at hm
   rw [if_neg (Ne.symm hne)] at ho' hm'
   cases hm
   have:=hlt ho' hm'
   omega
  ·rw [if_neg e] at ho hm
   by_cases e':id' = s.nx
   ·subst e'
    rw [if_pos rfl] at hm'
    cases hm'
    have:=hlt ho hm
    omega
   ·rw [if_neg e'] at ho' hm'
    exact h.inj ho ho' hne hm hm'
 ·intro id hid
  unfold M.ext
  rw [if_neg (by simp at hid;omega)]
  exact h.fresh (by simp at hid;omega)
theorem In.upd {w0 w w':World} {s:St} (h:In w0 m s w) {id r sh z:Nat} {o o':O} {ob':Obj} (ho:s.h.obj id = some o) (hm:m id = some (r,sh,z)) (hob:ObR m o' sh z ob')
  (h1:w'.heap[r]? = some ob') (h2:∀ k,k ≠ r → w'.heap[k]? = w.heap[k]?) (h3:Below w0.heap.size w w'):In w0 m ⟨s.h.upd id (some o'),s.nx⟩ w':=by
 have hid:=H.obj_lt ho
 refine ⟨?_,?_,h.fresh,h.below.trans h3⟩
 ·intro k ok hok
  rw [H.obj_upd _ hid] at hok
  split at hok
  ·cases hok
   subst_vars
   obtain ⟨r',sh',z',ob1,hm',h4,_,_⟩:=h.obj ho
   rw [hm] at hm'
   cases hm'
   exact ⟨r,sh,z,ob',hm,h4,h1,hob⟩
  ·rename_i hne
   obtain ⟨r',sh',z',ob1,hm',h4,h5,h6⟩:=h.obj hok
   exact ⟨r',sh',z',ob1,hm',h4,by rw [h2 _ (fun e=>h.inj hok ho hne hm' hm e)];exact h5,h6⟩
 ·intro a b o1 o2 r1 sh1 z1 r2 sh2 z2 ha hb hne hma hmb
  rw [H.obj_upd _ hid] at ha hb
  obtain ⟨oa,ha'⟩:∃ oa,s.h.obj a = some oa:=by split at ha;(subst_vars;exact ⟨o,ho⟩);exact ⟨_,ha⟩
  obtain ⟨obb,hb'⟩:∃ oa,s.h.obj b = some oa:=by split at hb;(subst_vars;exact ⟨o,ho⟩);exact ⟨_,hb⟩
  exact h.inj ha' hb' hne hma hmb
theorem In.kill {w0 w:World} {s:St} (h:In w0 m s w) {id:Nat} (hid:id < 2048):In w0 m ⟨s.h.upd id none,s.nx⟩ w:=by
 refine ⟨?_,?_,h.fresh,h.below⟩
 ·intro k ok hok
  rw [H.obj_upd _ hid] at hok
  split at hok
  ·cases hok
  ·exact h.obj hok
 ·intro a b o1 o2 r1 sh1 z1 r2 sh2 z2 ha hb
  rw [H.obj_upd _ hid] at ha hb
  split at ha
  ·cases ha
  split at hb
  ·cases hb
  exact h.inj ha hb
theorem In.move {w0 w w':World} {s:St} (h:In w0 m s w) (hn:s.nx < 2048) {id r sh z sh':Nat} {o o':O} {ob':Obj} (ho:s.h.obj id = some o) (hm:m id = some (r,sh,z)) (hob:ObR m o' sh' z ob')
  (h1:w'.heap[r]? = some ob') (h2:∀ k,k ≠ r → w'.heap[k]? = w.heap[k]?) (h3:Below w0.heap.size w w') :
  m.le (m.ext s.nx (r,sh',z)) ∧ In w0 (m.ext s.nx (r,sh',z)) ⟨(s.h.upd id none).upd s.nx (some o'),s.nx + 1⟩ w':=by
 have hid:=H.obj_lt ho
 have hm0:=h.fresh (Nat.le_refl _)
 have hle:m.le (m.ext s.nx (r,sh',z)):=M.le_ext hm0
 have hne0:id ≠ s.nx:=fun e=>by subst e;rw [hm0] at hm;cases hm
 obtain ⟨r0,sh0,z0,ob0,hm',h4,_,_⟩:=h.obj ho
 rw [hm] at hm'
 cases hm'
 refine ⟨hle,⟨?_,?_,?_,h.below.trans h3⟩⟩
 ·intro k ok hok
  rw [H.obj_upd _ hn] at hok
  split at hok
  ·cases hok
   subst_vars
   exact ⟨r,sh',z,ob',M.ext_self _ _ _,h4,h1,hob.mono hle⟩
  ·rw [H.obj_upd _ hid] at hok
   split at hok
   ·cases hok
   ·rename_i hne
    obtain ⟨r',sh1,z',ob1,hm',h5,h6,h7⟩:=h.obj hok
    exact ⟨r',sh1,z',ob1,hle _ _ hm',h5,by rw [h2 _ (fun e=>h.inj hok ho hne hm' hm e)];exact h6,h7.mono hle⟩
 ·intro a b o1 o2 r1 sh1 z1 r2 sh2 z2 ha hb hne hma hmb
  rw [H.obj_upd _ hn,H.obj_upd _ hid] at ha hb
  unfold M.ext at hma hmb
  by_cases e:a = s.nx
  ·subst e
   rw [if_pos rfl] at hma
   rw [if_neg (Ne.symm hne)] at hb hmb
   cases hma
   split at hb
   ·cases hb
   ·rename_i hbi
    exact fun e=>h.inj hb ho hbi hmb hm e.symm
  ·rw [if_neg e] at ha hma
   split at ha
   ·cases ha
   ·rename_i hai
    by_cases e':b = s.nx
    ·subst e'
     rw [if_pos rfl] at hmb
     cases hmb
     exact h.inj ha ho hai hma hm
    ·rw [if_neg e'] at hb hmb
     split at hb
     ·cases hb
     ·exact h.inj ha hb hne hma hmb
 ·intro k hk
  unfold M.ext
  rw [if_neg (by simp at hk;omega)]
  exact h.fresh (by simp at hk;omega)
end
section
variable {P:Program} {m:M} {w0 w:World} {s:St}
def Does (P:Program) (w0:World) (m:M) (ρ:Operand → Value) (o:Oper) (w:World) (v:V) (s':St):Prop :=
 ∃ m' w' rv,m.le m' ∧ In w0 m' s' w' ∧ RV m' v rv ∧ ((execOp ρ o).run P w = .ok (.value rv) w' ∨ (rv = undef ∧ (execOp ρ o).run P w = .ok .skip w'))
def Made (P:Program) (w0:World) (m:M) (q:Sem Value) (w:World) (v:V) (s':St):Prop :=
 ∃ m' w' rv,m.le m' ∧ In w0 m' s' w' ∧ RV m' v rv ∧ q.run P w = .ok rv w'
theorem Does.of {ρ:Operand → Value} {o:Oper} {v:V} {s':St} {q:Sem Value} (h:Made P w0 m q w v s') (he:(execOp ρ o).run P w = (do pure (.value (← q)):Sem Next).run P w):Does P w0 m ρ o w v s':=by
 obtain ⟨m',w',rv,a,b,c,d⟩:=h
 exact ⟨m',w',rv,a,b,c,.inl (by rw [he];simp [d])⟩
theorem Does.ofU {ρ:Operand → Value} {o:Oper} {s':St} {q:Sem Unit} {w':World} (h:q.run P w = .ok () w') (hi:In w0 m s' w') (he:(execOp ρ o).run P w = (do q;pure .skip:Sem Next).run P w):Does P w0 m ρ o w und s' :=
 ⟨m,w',undef,m.le_refl,hi,.und,.inr ⟨rfl,by rw [he];simp [h]⟩⟩
theorem Does.pure {ρ:Operand → Value} {o:Oper} {v:V} (hi:In w0 m s w) (h:Gives P m ρ o v):Does P w0 m ρ o w v s:=by
 obtain ⟨rv,h1,h2⟩:=h
 exact ⟨m,w,rv,m.le_refl,hi,h1,.inl (h2 w)⟩
theorem H.get_some {h:H} {id:Nat} {l:List V} (hg:h.get id = some l):∃ ap,h.obj id = some (.row ap l):=by
 unfold H.get at hg
 split at hg <;> simp at hg
 subst hg
 exact ⟨_,‹_›⟩
theorem In.row (h:In w0 m s w) {id:Nat} {ap:Bool} {l:List V} (ho:s.h.obj id = some (.row ap l)) {r sh z:Nat} (hm:m id = some (r,sh,z)) :
  ∃ c e fr,w0.heap.size ≤ r ∧ w.heap[r]? = some (.cells c e fr) ∧ c.size = z ∧ sh + l.length ≤ z ∧ RVs m l ((c.toList.drop sh).take l.length) ∧ (∀ x ∈ l,x.one = true) ∧ (ap = true → fr = (0,0)) ∧ (∀ j,j < l.length → ¬ (fr.1 ≤ sh + j ∧ sh + j < fr.2)):=by
 obtain ⟨r',sh',z',ob,hm',h1,h2,h3⟩:=h.obj ho
 rw [hm] at hm'
 cases hm'
 cases h3 with
 | row a b c d e f=>exact ⟨_,_,_,h1,h2,a,b,c,d,e,f⟩
theorem cell_at {r:Nat} {c:Array Value} {e:TypeId} {fr:Nat × Nat} (h:w.heap[r]? = some (.cells c e fr)) (k:Nat):w.cell? ⟨r,k,none⟩ = c[k]?:=by
 simp [World.cell?,h]
theorem frozen_at {r:Nat} {c:Array Value} {e:TypeId} {fr:Nat × Nat} (h:w.heap[r]? = some (.cells c e fr)) (k:Nat):w.frozen? ⟨r,k,none⟩ = decide (fr.1 ≤ k ∧ k < fr.2):=by
 obtain ⟨lo,hi⟩:=fr
 simp [World.frozen?,h]
theorem seg_sound {c:Array Value} {l x:List V} {sh off n:Nat} (hc:RVs m l ((c.toList.drop sh).take l.length)) (hl:sh + l.length ≤ c.size) (h:seg l off n = some x) :
  RVs m x ((c.toList.drop (sh + off)).take n) ∧ x.length = n ∧ (n = 0 ∨ off + n ≤ l.length):=by
 obtain ⟨rfl,hn⟩:=seg_eq h
 have hlen:((l.drop off).take n).length = n:=by simp;omega
 refine ⟨?_,hlen,hn⟩
 have:=(hc.drop off).take n
 rcases hn with rfl | hn
 ·simpa using RVs.nil
 ·rw [List.drop_take,List.drop_drop,List.take_take] at this
  rwa [Nat.min_eq_left (by omega)] at this
theorem get_cells {c:Array Value} {sh off n:Nat} (hn:sh + off + n ≤ c.size):((c.toList.drop (sh + off)).take n).length = n:=by simp;omega
theorem load_val (hi:In w0 m s w) {ty:TypeId} {id off:Nat} {v:V} {a:Value} (h:s.h.load P ty id off = some v) (hx:RV m (.p id off) a):∃ rv,RV m v rv ∧ (Instr.loadAt ty a).run P w = .ok rv w:=by
 unfold H.load at h
 split at h <;> try simp at h
 rename_i o hg
 obtain ⟨ap,ho⟩:=H.get_some hg
 cases hx with
 | @p _ _ r sh z hm =>
  obtain ⟨c,e,fr,h1,h2,h3,h4,h5,h6,h7,h8⟩:=hi.row ho hm
  unfold partV at h
  split at h
  ·rename_i ha
   split at h <;> try simp at h
   rename_i n hn
   split at h <;> try simp at h
   rename_i x hx
   subst h
   obtain ⟨q1,q2,q3⟩:=seg_sound h5 (by omega) hx
   obtain ⟨i,hi',hsz⟩:=sz_some hn
   refine ⟨.agg ((c.toList.drop (sh + off)).take n).toArray,.a (by simpa using q1) (fun y hy=>h6 y ?_),?_⟩
   ·obtain ⟨rfl,_⟩:=seg_eq hx
    exact List.mem_of_mem_drop (List.mem_of_mem_take hy)
   ·have hlen:((c.toList.drop (sh + off)).take n).length = n:=by rw [← q1.len];exact q2
    have hl:(loadCells ⟨r,sh + off,none⟩ n).run P w = .ok ((c.toList.drop (sh + off)).take n).toArray w:=by
     have:=run_loadCells_list (P:=P) w ⟨r,sh + off,none⟩ ((c.toList.drop (sh + off)).take n) (fun j u hj=>by
      rw [Addr.add_mid,cell_at h2]
      rw [List.getElem?_take] at hj
      split at hj
      ·rw [List.getElem?_drop] at hj;simpa using hj
      ·cases hj)
     rwa [hlen] at this
    simp [Instr.loadAt,Instr.sureAddr,loadVar,run_isAgg' ha,run_sizeOf' hn,hl]
  ·rename_i ha
   rw [getN_eq] at h
   obtain ⟨rv,hv,hr⟩:=h5.get off v h
   have hlt:off < o.length:=(List.getElem?_eq_some_iff.1 h).1
   rw [List.getElem?_take,if_pos hlt,List.getElem?_drop] at hv
   have hv':w.cell? ⟨r,sh + off,none⟩ = some rv:=by rw [cell_at h2];simpa using hv
   exact ⟨rv,hr,by simp [Instr.loadAt,Instr.sureAddr,loadVar,run_isAgg' ha,hv']⟩
  ·simp at h
theorem load_sound (hi:In w0 m s w) {ty:TypeId} {id off:Nat} {v:V} {a:Value} (h:s.h.load P ty id off = some v) (hx:RV m (.p id off) a):Made P w0 m (Instr.loadAt ty a) w v s:=by
 obtain ⟨rv,h1,h2⟩:=load_val hi h hx
 exact ⟨m,w,rv,m.le_refl,hi,h1,h2⟩
theorem setCells_heap (r:Nat):∀ (vs:List Value) (o:Nat) (c:Array Value) (e:TypeId) (fr:Nat × Nat) (w:World),w.heap[r]? = some (.cells c e fr) →
  (w.setCells r o vs).heap[r]? = some (.cells ((vs.zipIdx 0).foldl (fun cs (p:Value × Nat)=>cs.setIfInBounds (o + p.2) p.1) c) e fr) ∧ (∀ k,k ≠ r → (w.setCells r o vs).heap[k]? = w.heap[k]?)
 | [],_,_,_,_,_,h=>⟨h,fun _ _=>rfl⟩
 | v :: vs,o,c,e,fr,w,h=>by
  have h1:(w.setCell ⟨r,o,none⟩ v).heap[r]? = some (.cells (c.setIfInBounds o v) e fr):=by simp [World.setCell,Array.getElem?_modify,h]
  obtain ⟨a,b⟩:=setCells_heap r vs (o + 1) _ e fr _ h1
  refine ⟨?_,fun k hk=>?_⟩
  ·rw [World.setCells,a]
   simp only [List.zipIdx_cons,List.foldl_cons,Nat.add_zero,Nat.zero_add]
   congr 2
   rw [List.zipIdx_succ,List.foldl_map]
   congr 1
   funext cs p
   congr 1
   simp
   omega
  ·rw [World.setCells,b k hk]
   exact Below.heap_setCell _ _ _ _ hk
theorem setCells_below {B r:Nat} (hB:B ≤ r):∀ (vs:List Value) (o:Nat) (w:World),Below B w (w.setCells r o vs)
 | [],_,w=>Below.refl _ _
 | v :: vs,o,w=>((Below.refl B w).setCell (p:=⟨r,o,none⟩) hB v).trans (setCells_below hB vs (o + 1) _)
theorem RVs.oneCell {l:List V} {r:List Value} (h:RVs m l r) (h1:∀ x ∈ l,x.one = true):∀ v ∈ r,v.oneCell' = true:=by
 induction l generalizing r with
 | nil=>cases h;simp
 | cons x l ih=>cases h with
  | cons hx hs =>
   intro v hv
   rcases List.mem_cons.1 hv with rfl | hv
   ·exact hx.oneCell (h1 _ (by simp))
   ·exact ih hs (fun x hx=>h1 x (by simp [hx])) v hv
theorem write_sound (hi:In w0 m s w) {id:Nat} {ap:Bool} {l xs l':List V} (ho:s.h.obj id = some (.row ap l)) {r sh z off:Nat} (hm:m id = some (r,sh,z)) (hp:put off l xs = some l')
  {vs:List Value} (hx:RVs m xs vs) (h1:∀ x ∈ xs,x.one = true) :
  (storeCells ⟨r,sh + off,none⟩ vs).run P w = .ok () (w.setCells r (sh + off) vs) ∧ In w0 m ⟨s.h.upd id (some (.row ap l')),s.nx⟩ (w.setCells r (sh + off) vs):=by
 obtain ⟨c,e,fr,q1,q2,q3,q4,q5,q6,q7,q8⟩:=hi.row ho hm
 obtain ⟨p1,p2⟩:=put_eq hp
 have hlen:=hx.len
 have hone:=hx.oneCell h1
 refine ⟨?_,?_⟩
 ·have:=run_storeCells_cells (P:=P) r (sh + off) vs 0 w (fun j hj=>by
    rw [Nat.add_zero,cell_at q2]
    have:sh + off + j < c.size:=by omega
    simp [this]) (fun j hj=>by
    rw [Nat.add_zero,frozen_at q2,decide_eq_false_iff_not]
    have:=q8 (off + j) (by omega)
    rwa [← Nat.add_assoc] at this) hone
  simpa using this
 ·obtain ⟨a,b⟩:=setCells_heap r vs (sh + off) c e fr w q2
  refine hi.upd ho hm ?_ a b (setCells_below q1 vs _ w)
  have hf:=foldl_put (sh + off) vs 0 c (by omega)
  simp only [Nat.add_zero] at hf
  have hl':l'.length = l.length:=by rw [p2];simp;omega
  have hsz:(vs.zipIdx.foldl (fun cs (p:Value × Nat)=>cs.setIfInBounds (sh + off + p.2) p.1) c).size = z:=by
   rw [← Array.length_toList,hf];simp;omega
  refine .row hsz (by omega) ?_ ?_ q7 (fun j hj=>q8 j (by omega))
  ·rw [hf,hl',p2]
   have e1:((c.toList.take (sh + off) ++ (vs ++ c.toList.drop (sh + off + vs.length))).drop sh).take l.length = ((c.toList.drop sh).take l.length).take off ++ (vs ++ ((c.toList.drop sh).take l.length).drop (off + xs.length)):=by
    apply List.ext_getElem?
    intro j
    have hs:c.toList.length = c.size:=Array.length_toList
    simp only [List.getElem?_append,List.getElem?_take,List.getElem?_drop,List.length_take,List.length_drop,List.length_append,hs,hlen]
    by_cases g1:j < off
    ·rw [if_pos (by omega),if_pos (by omega),if_pos (by omega),if_pos (by omega),if_pos (by omega),if_pos (by omega)]
    ·by_cases g2:j < off + vs.length
     ·rw [if_pos (by omega),if_neg (by omega),if_pos (by omega),if_neg (by omega),if_pos (by omega)]
      congr 1;omega
     ·by_cases g3:j < l.length
      ·rw [if_pos g3,if_neg (by omega),if_neg (by omega),if_neg (by omega),if_neg (by omega),if_pos (by omega)]
       congr 1;omega
      ·rw [if_neg g3,if_neg (by omega),if_neg (by omega),if_neg (by omega)]
   rw [e1]
   exact (q5.take off).append (hx.append (q5.drop _))
  ·intro x hx
   rw [p2] at hx
   simp only [List.mem_append] at hx
   rcases hx with hx | hx | hx
   ·exact q6 x (List.mem_of_mem_take hx)
   ·exact h1 x hx
   ·exact q6 x (List.mem_of_mem_drop hx)
theorem store_sound (hi:In w0 m s w) {ty:TypeId} {id off:Nat} {y v:V} {s':St} {a b:Value} (h:storeV P s ty id off y = some (v,s')) (hx:RV m (.p id off) a) (hy:RV m y b) :
  v = und ∧ ∃ w',(Instr.storeAt ty a b).run P w = .ok () w' ∧ In w0 m s' w':=by
 unfold storeV at h
 split at h <;> try simp at h
 rename_i ap o cs n ho hcs hn
 obtain ⟨hl,h⟩:=h
 split at h <;> try simp at h
 rename_i r hr
 obtain ⟨rfl,rfl⟩:=h
 obtain ⟨c1,c2⟩:=cells_sound hy hcs
 cases hx with
 | @p _ _ rr sh z hm =>
  obtain ⟨e1,e2⟩:=write_sound (P:=P) hi ho hm hr c1 c2
  refine ⟨rfl,_,?_,e2⟩
  have:b.cells.size = n:=by have:=c1.len;simp at this;omega
  simp [Instr.storeAt,Instr.sureAddr,storeVar,run_sizeOf' hn,this,e1]
end
section
variable {P:Program} {m:M} {w0 w:World} {s:St}
theorem newO_some {β:Type} {o:O} {k:Nat → St → Option β} {r:β} (h:newO s o k = some r):s.nx < 2048 ∧ k s.nx ⟨s.h.upd s.nx (some o),s.nx + 1⟩ = some r:=by
 unfold newO at h
 split at h
 ·rename_i hh
  rw [Nat.blt_eq] at hh
  simp at h
  exact ⟨hh,h⟩
 ·simp at h
theorem ObR.new {l:List V} {c:Array Value} {e:TypeId} (h:RVs m l c.toList) (h1:∀ x ∈ l,x.one = true) (ap:Bool):ObR m (.row ap l) 0 c.size (.cells c e (0,0)):=by
 have hl:l.length = c.size:=by simpa using h.len
 exact .row rfl (by omega) (by rw [hl,List.drop_zero,List.take_of_length_le (by simp)];exact h) h1 (fun _=>rfl) (fun j _=>by simp)
theorem alloc_sound (hi:In w0 m s w) {e:TypeId} {v:V} {s':St} (h:oAlloc P s e = some (v,s')):Made P w0 m (Instr.alloc e true (.tuple #[])) w v s':=by
 unfold oAlloc at h
 split at h <;> try simp at h
 rename_i cs hz
 obtain ⟨i,z,h1,h2,h3,h4⟩:=zeroC_some (m:=m) hz
 obtain ⟨hn,h⟩:=newO_some h
 simp at h
 obtain ⟨rfl,rfl⟩:=h
 obtain ⟨a,b⟩:=hi.new hn (ObR.new (e:=e) h3 h4 true)
 refine ⟨_,_,.pointer (some ⟨w.heap.size,0,none⟩),a,b,?_,?_⟩
 ·exact .p (off:=0) (sh:=0) (M.ext_self _ _ _)
 ·simp [Instr.alloc,zeroValue,typeInfo,h1,h2,newVar,newRow,newObj,Sem.run]
theorem box_sound (hi:In w0 m s w) {t:Tm} {a:Act} (ht:TR m t a) {e:TypeId} {x:Operand} {v:V} {s':St} (h:oBox s t x = some (v,s')):Made P w0 m (Instr.box e (a.eval x)) w v s':=by
 unfold oBox at h
 split at h <;> try simp at h
 rename_i y hy
 split at h <;> try simp at h
 rename_i cs hcs
 obtain ⟨h3,h4⟩:=cells_sound (ev_sound ht hy) hcs
 obtain ⟨hn,h⟩:=newO_some h
 simp at h
 obtain ⟨rfl,rfl⟩:=h
 obtain ⟨p,q⟩:=hi.new hn (ObR.new (e:=e) h3 h4 true)
 refine ⟨_,_,.pointer (some ⟨w.heap.size,0,none⟩),p,q,?_,?_⟩
 ·exact .p (off:=0) (sh:=0) (M.ext_self _ _ _)
 ·simp [Instr.box,newVar,newRow,newObj,Sem.run]
theorem repC_len (n:Nat) (l:List V):(repC n l).length = n * l.length:=by
 induction n with
 | zero=>simp [repC]
 | succ n ih=>simp [repC,ih,Nat.succ_mul];omega
theorem repC_mem (n:Nat) (l:List V):∀ x ∈ repC n l,x ∈ l:=by
 induction n with
 | zero=>simp [repC]
 | succ n ih=>intro x hx;simp [repC] at hx;rcases hx with h | h;exact h;exact ih x h
theorem repC_get (n:Nat) (l:List V) (j:Nat) (hj:j < n * l.length):(repC n l)[j]? = l[j % l.length]?:=by
 induction n generalizing j with
 | zero=>simp at hj
 | succ n ih =>
  simp only [repC,List.getElem?_append]
  rw [Nat.succ_mul] at hj
  split
  ·rw [Nat.mod_eq_of_lt ‹_›]
  ·rw [ih _ (by omega),← Nat.mod_eq_sub_mod (by omega)]
theorem zeros_sound {l:List V} {z:Array Value} (h:RVs m l z.toList) (n:Nat):RVs m (repC n l) ((Array.range (n * z.size)).map (fun j=>z[j % z.size]!)).toList:=by
 have hl:l.length = z.size:=by simpa using h.len
 refine RVs.of_get (by simp [repC_len,hl]) fun j x v hx hv=>?_
 have hj:j < n * l.length:=by rw [← repC_len];exact (List.getElem?_eq_some_iff.1 hx).1
 rw [repC_get n l j hj] at hx
 obtain ⟨v',hv',hr⟩:=h.get _ x hx
 rw [hl] at hv' hj
 have hv:z[j % z.size]! = v:=by
  have hjr:(Array.range (n * z.size))[j]? = some j:=by simp [hj]
  simp only [Array.getElem?_toList,Array.getElem?_map,hjr,Option.map_some,Option.some.injEq] at hv
  exact hv
 have e:z[j % z.size]! = v':=by
  rw [Array.getElem?_toList] at hv'
  simp [getElem!_def,hv']
 rw [← hv,e]
 exact hr
theorem buildS_sound (hi:In w0 m s w) {t:Tm} {a:Act} (ht:TR m t a) {ty:TypeId} {len:Nat} {parts:Array (Nat × Operand)} {v:V} {s':St} (h:oBuildS P s t ty len parts = some (v,s')) :
  Made P w0 m (Instr.buildSlice ty len (parts.map fun (i,x)=>(i,a.eval x))) w v s':=by
 unfold oBuildS at h
 split at h <;> try simp at h
 rename_i ps e hps hu
 split at h <;> try simp at h
 rename_i z hz
 obtain ⟨hlim,h⟩:=h
 split at h <;> try simp at h
 rename_i zc hzc
 obtain ⟨hzl,h⟩:=h
 split at h <;> try simp at h
 rename_i cs hcs
 obtain ⟨hn,h⟩:=newO_some h
 simp at h
 obtain ⟨rfl,rfl⟩:=h
 obtain ⟨i,zv,h1,h2,h3,h4⟩:=zeroC_some (m:=m) hzc
 have hp:=evp_sound ht hps
 have hzs:zv.cells.size = z:=by have:=h3.len;simp at this;omega
 have hz0:=zeros_sound h3 len
 obtain ⟨cells,e1,e2,e3,e4⟩:=fill_sound (place:=fun i=>some (i * z,z)) hp hcs hz0 (fun x hx=>h4 x (repC_mem _ _ x hx))
 rw [hzs] at e1 e4
 have hsz:cells.size = len * z:=by rw [e4];simp
 obtain ⟨p,q⟩:=hi.new hn (ObR.new (e:=e) e2 e3 true)
 refine ⟨_,_,.slice (some ⟨w.heap.size,0,none⟩) len len,p,q,?_,?_⟩
 ·exact .sl (sh:=0) (M.ext_self _ _ _) (Nat.le_refl _) (by omega) (.inl rfl)
 ·have e24:(2:Nat) ^ 24 = 16777216:=by decide
  have hlim':¬ (2 ^ 24 < len * z):=by omega
  by_cases h0:len * z = 0
  ·have e1':Instr.fill (fun i=>some (i * z,z)) ((Array.range 0).map fun j=>(#[]:Array Value)[j % (#[]:Array Value).size]!) (parts.map fun (i,x)=>(i,a.eval x)).toList = some cells:=by
    rw [h0] at e1
    have:(Array.range 0).map (fun j=>zv.cells[j % z]!) = (Array.range 0).map fun j=>(#[]:Array Value)[j % (#[]:Array Value).size]!:=by simp [Array.range]
    rw [this] at e1
    simpa using e1
   simp only [Instr.buildSlice,Sem.run_bind,run_underlying hu,run_sizeOf' hz,Result.andThen_ok,h0,Sem.run_ite]
   rw [if_neg (by decide)]
   simp only [Sem.run_pure,Result.andThen_ok,e1',if_true]
   simp [newRow,newObj,Sem.run]
  ·simp [Instr.buildSlice,run_underlying hu,run_sizeOf' hz,h0,hlim',zeroValue,typeInfo,h1,h2,hzs,e1,newRow,newObj,Sem.run]
theorem makeS_sound (hi:In w0 m s w) {t:Tm} {a:Act} (ht:TR m t a) {ty:TypeId} {x y:Operand} {v:V} {s':St} (h:oMakeS P s t ty x y = some (v,s')) :
  Made P w0 m (Instr.makeSlice ty (a.eval x) (a.eval y)) w v s':=by
 unfold oMakeS at h
 split at h <;> try simp at h
 rename_i k n k' n' e hx hy hu
 split at h <;> try simp at h
 rename_i z zc hz hzc
 obtain ⟨⟨⟨⟨rfl,hn1⟩,hzl⟩,hz1⟩,h⟩:=h
 obtain ⟨hn,h⟩:=newO_some h
 simp at h
 obtain ⟨rfl,rfl⟩:=h
 obtain ⟨i,zv,h1,h2,h3,h4⟩:=zeroC_some (m:=m) hzc
 have hzs:zv.cells.size = z:=by have:=h3.len;simp at this;omega
 have hz0:=zeros_sound h3 n
 rw [hzs] at hz0
 obtain ⟨i',hi',hsz⟩:=sz_some hz
 rw [h1] at hi'
 cases hi'
 obtain ⟨p,q⟩:=hi.new hn (ObR.new (e:=e) hz0 (fun x hx=>h4 x (repC_mem _ _ x hx)) true)
 have rx:=ev_sound ht hx
 have ry:=ev_sound ht hy
 generalize a.eval x = vx at rx
 generalize a.eval y = vy at ry
 cases rx
 cases ry
 refine ⟨_,_,.slice (some ⟨w.heap.size,0,none⟩) n n,p,q,?_,?_⟩
 ·exact .sl (sh:=0) (M.ext_self _ _ _) (Nat.le_refl _) (by simp) (.inl rfl)
 ·have hb:i.bytes ≤ 1000000:=by simpa [small,h1] using hz1
  have:=run_make (P:=P) w ty e i zv hu h1 h2 k k' (n:Int) (n:Int) (by omega) (Int.le_refl _) (by
   have:(i.bytes:Int) * (n:Int) ≤ 1000000 * 1000:=Int.mul_le_mul (by omega) (by omega) (by omega) (by omega)
   omega) (by omega)
  rw [hsz] at this
  simpa [madeCells,hzs] using this
end
section
variable {P:Program} {m:M} {w0 w:World} {s:St}
theorem range_sound (hi:In w0 m s w) {t:Tm} {a:Act} (ht:TR m t a) {ty:TypeId} {x:Operand} {v:V} {s':St} (h:oRange P s t ty x = some (v,s')):Made P w0 m (Instr.range ty (a.eval x)) w v s':=by
 unfold oRange at h
 split at h <;> try simp at h
 rename_i l hx hu
 obtain ⟨hn,h⟩:=newO_some h
 simp at h
 obtain ⟨rfl,rfl⟩:=h
 have rx:=ev_sound ht hx
 generalize a.eval x = q at rx
 cases rx with
 | s h1 =>
  obtain ⟨p,q⟩:=hi.new (z:=0) hn (.it (pos:=0) h1)
  refine ⟨_,_,.pointer (some ⟨w.heap.size,0,none⟩),p,q,.p (off:=0) (sh:=0) (M.ext_self _ _ _),?_⟩
  simp [Instr.range,run_underlying hu,newObj,Sem.run]
theorem decode_ascii {l:List Nat} {pos c:Nat} (h:l[pos]? = some c) (hc:c < 128):Utf8.decode (bytesV l) pos = (c,1):=by
 have hl:pos < l.length:=(List.getElem?_eq_some_iff.1 h).1
 have e:((bytesV l).get! (pos + 0)).toNat = c:=by
  have hg:=bytesV_get l pos
  rw [h] at hg
  have h2:pos < (bytesV l).size:=by rw [bytesV_size];exact hl
  simp only [getElem?_def,h2,dif_pos,Option.map_some,Option.some.injEq] at hg
  have e2:(bytesV l).get! pos = (bytesV l)[pos]:=by
   simp [ByteArray.get!,ByteArray.getElem_eq_getElem_data]
   rw [getElem!_pos]
  rw [Nat.add_zero,e2,hg]
  simp
  omega
 unfold Utf8.decode
 simp only [e]
 rw [if_pos (by omega)]
theorem next_sound (hi:In w0 m s w) {x:V} {a:Value} {v:V} {s':St} (ty:TypeId) (h:nextV s x = some (v,s')) (hx:RV m x a):Made P w0 m (Instr.next a true ty) w v s':=by
 unfold nextV at h
 split at h <;> try simp at h
 rename_i id
 split at h <;> try simp at h
 rename_i l pos ho
 obtain ⟨r,sh,z,ob,h1,h2,h3,h4⟩:=hi.obj ho
 cases hx with
 | @p _ _ r' sh' z' hm =>
 rw [hm] at h1
 cases h1
 cases h4 with
 | it hl =>
 have hr:r < w.heap.size:=(Array.getElem?_eq_some_iff.1 h3).1
 split at h
 ·rename_i c hc
  rw [getS_eq] at hc
  split at h <;> simp at h
  rename_i hlt
  have hlt:c < 128:=by first | exact hlt | (rw [Nat.blt_eq] at hlt;exact hlt)
  obtain ⟨rfl,rfl⟩:=h
  have hp:pos < (bytesV l).size:=by rw [bytesV_size];exact (List.getElem?_eq_some_iff.1 hc).1
  refine ⟨m,{ w with heap:=w.heap.setIfInBounds r (.stringIter (bytesV l) (pos + 1)) },.tuple #[.bool true,goInt pos,.int .i32 c],m.le_refl,?_,?_,?_⟩
  ·refine hi.upd ho hm (.it hl) ?_ ?_ ?_
   ·simp [hr]
   ·intro k hk;exact Array.getElem?_setIfInBounds_ne (Ne.symm hk)
   ·refine ⟨rfl,rfl,rfl,by simp,fun k hk=>Array.getElem?_setIfInBounds_ne (by omega)⟩
  ·exact .t (.cons .b (.cons .i (.cons .i .nil)))
  ·simp [Instr.next,getObj,setObj,Sem.run,h3,hp,decode_ascii hc hlt]
 ·rename_i hc
  rw [getS_eq] at hc
  simp at h
  obtain ⟨rfl,rfl⟩:=h
  have hp:¬ pos < (bytesV l).size:=by rw [bytesV_size];simpa using hc
  refine ⟨m,w,.tuple #[.bool false],m.le_refl,hi,.t (.cons .b .nil),?_⟩
  simp [Instr.next,getObj,Sem.run,h3,hp]
theorem map_sound (hi:In w0 m s w) {r:Option Operand} {v:V} {s':St} (h:oMap s r = some (v,s')) (ty:TypeId) (ρ:Operand → Value):Made P w0 m (Instr.makeMap ty (r.map ρ)) w v s':=by
 unfold oMap at h
 split at h <;> try simp at h
 obtain ⟨hn,h⟩:=newO_some h
 simp at h
 obtain ⟨rfl,rfl⟩:=h
 obtain ⟨p,q⟩:=hi.new (z:=0) (ob:=.map #[] 0) hn (.map .nil)
 refine ⟨_,_,.map (some w.heap.size),p,q,.m (M.ext_self _ _ _),?_⟩
 simp [Instr.makeMap,newObj,Sem.run]
theorem checkKey_ok {kt:TypeId} {k:V} {kv:Value} (h:keyT P kt k = true) (hk:RV m k kv) (e:Bool) (n:Nat):(Instr.checkKey e (n + 1) kt kv).run P w = .ok () w:=by
 unfold keyT at h
 split at h <;> try simp at h
 ·rename_i hu;cases hk;simp [Instr.checkKey,run_underlying hu]
 ·rename_i hu;cases hk;simp [Instr.checkKey,run_underlying hu]
theorem sameNow_key {kt:TypeId} {k k':V} {a b:Value} {d:TypeDesc} (hu:P.underlying kt = some d) (h:keyT P kt k = true) (hk:RV m k a) (hk':RV m k' b) {r:Bool} (hr:keyEq k k' = some r):Instr.sameNow d a b = some r:=by
 unfold keyT at h
 rw [hu] at h
 unfold keyEq at hr
 split at hr <;> try simp at hr
 ·obtain ⟨hk0,rfl⟩:=hr
  rw [kEq_eq] at hk0
  subst hk0
  cases hk;cases hk'
  cases d <;> simp at h
  simp [Instr.sameNow,eqI_eq]
 ·subst hr
  cases hk with
  | s h1=>cases hk' with
   | s h2 =>
    cases d <;> simp at h
    have:=eqN_bytes h1 h2
    simp only [Instr.sameNow,Option.some.injEq,← this,beq_toListBytes,bytesV_toList]
theorem findV_sound {kt:TypeId} {k:V} {a:Value} {d:TypeDesc} (hu:P.underlying kt = some d) (h:keyT P kt k = true) (hk:RV m k a) {l:List (V × V)} {es:List MapEntry} (hl:MR m l es) {r:Option V}:∀ (i:Nat),findV k l = some r →
  match r with
  | none=>Instr.findNow d a es i = some none
  | some v=>∃ j rv,RV m v rv ∧ Instr.findNow d a es i = some (some (j,rv)):=by
 induction hl with
 | nil=>intro i hf;simp [findV] at hf;subst hf;rfl
 | cons hk' hv _ ih =>
  intro i hf
  simp only [findV] at hf
  split at hf
  ·rename_i he
   simp at hf
   subst hf
   refine ⟨i,_,hv,?_⟩
   simp only [Instr.findNow,sameNow_key hu h hk hk' he]
  ·rename_i he
   have:=ih (i + 1) hf
   simp only [Instr.findNow,sameNow_key hu h hk hk' he]
   exact this
  ·simp at hf
theorem In.map (hi:In w0 m s w) {id:Nat} {l:List (V × V)} (ho:s.h.obj id = some (.map l)) {r sh z:Nat} (hm:m id = some (r,sh,z)) :
  ∃ es clock,w0.heap.size ≤ r ∧ w.heap[r]? = some (.map es clock) ∧ MR m l es.toList:=by
 obtain ⟨r',sh',z',ob,hm',h1,h2,h3⟩:=hi.obj ho
 rw [hm] at hm'
 cases hm'
 cases h3 with
 | map h=>exact ⟨_,_,h1,h2,h⟩
theorem look_sound (hi:In w0 m s w) {ty:TypeId} {x k v:V} {a b:Value} {ok:Bool} (h:lookV P s.h ty x k ok = some v) (hx:RV m x a) (hk:RV m k b):Made P w0 m (Instr.lookup ty a b ok) w v s:=by
 unfold lookV at h
 split at h <;> try simp at h
 rename_i kt e hu
 obtain ⟨hkt,h⟩:=h
 split at h <;> try simp at h
 rename_i id
 split at h <;> try simp at h
 rename_i l ho
 cases hx with
 | @m _ r sh z hm =>
 obtain ⟨es,clock,h1,h2,h3⟩:=hi.map ho hm
 obtain ⟨d,hd⟩:∃ d,P.underlying kt = some d:=by
  unfold keyT at hkt
  split at hkt <;> try simp at hkt
  ·exact ⟨_,‹_›⟩
  ·exact ⟨_,‹_›⟩
 have ck:∀ e,(Instr.checkKey e 10000 kt b).run P w = .ok () w:=fun e=>checkKey_ok (w:=w) hkt hk e 9999
 split at h <;> try simp at h
 ·rename_i u z hf hz
  obtain ⟨j,rv,hr,hn⟩:=findV_sound hd hkt hk h3 0 hf
  obtain ⟨i,zv,z1,z2,z3⟩:=zeroV_some (m:=m) hz
  subst h
  have hfk:(Instr.findKey kt b es.toList).run P w = .ok (some (j,rv)) w:=by simp [Instr.findKey,run_underlying hd,hn]
  have:(Instr.lookup ty (.map (some r)) b ok).run P w = .ok (if ok then .tuple #[rv,.bool true] else rv) w:=by
   simp only [Instr.lookup,Sem.run_bind,run_underlying hu,Result.andThen_ok,getObj,Sem.run,Sem.run_pure,h2,ck,hfk]
  refine ⟨m,w,_,m.le_refl,hi,?_,this⟩
  cases ok
  ·exact hr
  ·exact .t (.cons hr (.cons .b .nil))
 ·rename_i z hf hz
  have hn:=findV_sound hd hkt hk h3 0 hf
  dsimp only at hn
  obtain ⟨i,zv,z1,z2,z3⟩:=zeroV_some (m:=m) hz
  subst h
  have hfk:(Instr.findKey kt b es.toList).run P w = .ok none w:=by simp [Instr.findKey,run_underlying hd,hn]
  have:(Instr.lookup ty (.map (some r)) b ok).run P w = .ok (if ok then .tuple #[zv,.bool false] else zv) w:=by
   simp only [Instr.lookup,Sem.run_bind,run_underlying hu,Result.andThen_ok,getObj,Sem.run,h2,ck,hfk,zeroValue,typeInfo,program,z1,z2,Sem.run_pure]
  refine ⟨m,w,_,m.le_refl,hi,?_,this⟩
  cases ok
  ·exact z3
  ·exact .t (.cons z3 (.cons .b .nil))
theorem ins_sound (hi:In w0 m s w) {ty:TypeId} {x k y v:V} {a b c:Value} {s':St} (h:insV P s ty x k y = some (v,s')) (hx:RV m x a) (hk:RV m k b) (hy:RV m y c) :
  v = und ∧ ∃ w',(Instr.mapUpdate ty a b c).run P w = .ok () w' ∧ In w0 m s' w':=by
 unfold insV at h
 split at h <;> try simp at h
 rename_i kt e hu
 obtain ⟨hkt,h⟩:=h
 split at h <;> try simp at h
 rename_i id
 split at h <;> try simp at h
 rename_i l ho
 cases hx with
 | @m _ r sh z hm =>
 obtain ⟨es,clock,h1,h2,h3⟩:=hi.map ho hm
 obtain ⟨d,hd⟩:∃ d,P.underlying kt = some d:=by
  unfold keyT at hkt
  split at hkt <;> try simp at hkt
  ·exact ⟨_,‹_›⟩
  ·exact ⟨_,‹_›⟩
 have ck:(Instr.checkKey false 10000 kt b).run P w = .ok () w:=checkKey_ok (w:=w) hkt hk false 9999
 split at h <;> try simp at h
 rename_i hf
 have hn:=findV_sound hd hkt hk h3 0 hf
 dsimp only at hn
 obtain ⟨rfl,rfl⟩:=h
 have hfk:(Instr.findKey kt b es.toList).run P w = .ok none w:=by simp [Instr.findKey,run_underlying hd,hn]
 have hr:r < w.heap.size:=(Array.getElem?_eq_some_iff.1 h2).1
 refine ⟨rfl,{ w with heap:=w.heap.setIfInBounds r (.map (es.push { key:=b,val:=c,born:=clock }) (clock + 1)) },?_,?_⟩
 ·simp only [Instr.mapUpdate,Sem.run_bind,run_underlying hu,Result.andThen_ok,getObj,Sem.run,h2,ck,hfk,setObj]
 ·refine hi.upd ho hm (ob':=.map (es.push { key:=b,val:=c,born:=clock }) (clock + 1)) (.map ?_) ?_ ?_ ?_
  ·simpa using h3.snoc (e:={ key:=b,val:=c,born:=clock }) hk hy
  ·simp [hr]
  ·intro k hk;exact Array.getElem?_setIfInBounds_ne (Ne.symm hk)
  ·refine ⟨rfl,rfl,rfl,by simp,fun k hk=>Array.getElem?_setIfInBounds_ne (by omega)⟩
end
section
variable {P:Program} {m:M} {w0 w:World} {s:St}
theorem byteV_len (l:List Nat):(byteV l).length = l.length:=by induction l <;> simp [byteV, *]
theorem byteV_one (l:List Nat):∀ x ∈ byteV l,x.one = true:=by
 induction l with
 | nil=>simp [byteV]
 | cons a l ih=>intro x hx;simp [byteV] at hx;rcases hx with rfl | hx;rfl;exact ih x hx
theorem byteV_rel {l:List Nat} (h:∀ n ∈ l,n < 256):RVs m (byteV l) (byteCells (bytesV l)):=by
 induction l with
 | nil=>exact .nil
 | cons a l ih =>
  have ha:=h a (by simp)
  have e:byteCells (bytesV (a :: l)) = Value.int .u8 (a:Int) :: byteCells (bytesV l):=by
   simp [byteCells,bytesV];omega
  rw [e]
  exact .cons .i (ih fun n hn=>h n (by simp [hn]))
theorem more_sound (hi:In w0 m s w) {z n:Nat} {y:V} {b:Value} {new:List V} (h:more s.h z y = some (n,new)) (hy:RV m y b) :
  ∃ news,RVs m new news ∧ (∀ x ∈ new,x.one = true) ∧ news.length = n * z ∧ (∀ w':World,(Builtin.lenOf b).run P w' = .ok n w') ∧
   (∀ k,k ≤ n → (Builtin.firstCells z k b).run P w = .ok (news.take (k * z)).toArray w ∧ (Builtin.firstCells z k b).run P w.drew = .ok (news.take (k * z)).toArray w.drew):=by
 unfold more at h
 split at h <;> try simp at h
 ·obtain ⟨rfl,rfl⟩:=h
  cases hy
  exact ⟨[],.nil,by simp,by simp,fun _=>rfl,fun k _=>⟨by simp [Builtin.firstCells],by simp [Builtin.firstCells]⟩⟩
 ·rename_i id off len z'
  obtain ⟨rfl,h⟩:=h
  split at h <;> try simp at h
  rename_i o hg
  split at h <;> simp at h
  rename_i x hx
  obtain ⟨rfl,rfl⟩:=h
  obtain ⟨ap,ho⟩:=H.get_some hg
  cases hy with
  | @sl _ _ _ _ r sh zz ad cap hm hl hz had =>
   obtain ⟨c,e,fr,h1,h2,h3,h4,h5,h6,h7,h8⟩:=hi.row ho hm
   obtain ⟨q1,q2,q3⟩:=seg_sound h5 (by omega) hx
   have one':∀ y ∈ x,y.one = true:=fun y hy=>by
    obtain ⟨rfl,_⟩:=seg_eq hx
    exact h6 y (List.mem_of_mem_drop (List.mem_of_mem_take hy))
   have hlen:((c.toList.drop (sh + off)).take (len * z')).length = len * z':=by rw [← q1.len];exact q2
   refine ⟨_,q1,one',hlen,fun _=>rfl,fun k hk=>?_⟩
   have hkz:k * z' ≤ len * z':=Nat.mul_le_mul_right _ hk
   have hcell:∀ j u,(((c.toList.drop (sh + off)).take (len * z')).take (k * z'))[j]? = some u → w.cell? ((⟨r,ad,none⟩:Addr).add j) = some u:=by
    intro j u hj
    have hjl:j < k * z':=by
     have:=(List.getElem?_eq_some_iff.1 hj).1
     simp at this;omega
    have had':ad = sh + off:=had.resolve_right (fun hc=>by
     have:len = 0:=by omega
     subst this
     simp at hkz
     omega)
    rw [Addr.add_mid,cell_at h2,had']
    rw [List.getElem?_take,if_pos hjl,List.getElem?_take,if_pos (by omega),List.getElem?_drop] at hj
    simpa using hj
   have hlen2:(((c.toList.drop (sh + off)).take (len * z')).take (k * z')).length = k * z':=by rw [List.length_take,hlen];omega
   have f:∀ w',(∀ j u,(((c.toList.drop (sh + off)).take (len * z')).take (k * z'))[j]? = some u → w'.cell? ((⟨r,ad,none⟩:Addr).add j) = some u) →
     (Builtin.firstCells z' k (.slice (some ⟨r,ad,none⟩) len cap)).run P w' = .ok (((c.toList.drop (sh + off)).take (len * z')).take (k * z')).toArray w':=fun w' hw'=>by
    have:=run_loadCells_list (P:=P) w' ⟨r,ad,none⟩ _ hw'
    rw [hlen2] at this
    exact this
   exact ⟨f w hcell,f w.drew (by simpa using hcell)⟩
 ·rename_i l
  obtain ⟨rfl,rfl,rfl⟩:=h
  cases hy with
  | s hs =>
   refine ⟨byteCells (bytesV l),byteV_rel hs,byteV_one l,by rw [byteCells_length,bytesV_size,Nat.mul_one],fun w'=>by simp [Builtin.lenOf,bytesV_size],fun k hk=>?_⟩
   have:∀ w',(Builtin.firstCells 1 k (.string (bytesV l))).run P w' = .ok ((byteCells (bytesV l)).take (k * 1)).toArray w':=fun w'=>by
    simp only [Builtin.firstCells,Sem.run_pure]
    congr 1
    apply Array.ext'
    simp [byteCells,bytesV,ByteArray.data_extract,List.extract_eq_take_drop]
   exact ⟨this w,this w.drew⟩
theorem src_of (hi:In w0 m s w) {z n:Nat} {tx:TypeId} {y:V} {b:Value} {new:List V} (h:more s.h z y = some (n,new)) (hy:RV m y b) (hk:kindT P tx y = true) :
  ∃ news,RVs m new news ∧ (∀ x ∈ new,x.one = true) ∧ Src P z tx b n news w:=by
 obtain ⟨news,h1,h2,h3,h4,h5⟩:=more_sound (P:=P) hi h hy
 refine ⟨news,h1,h2,?_,h4,?_,?_,h3,h1.oneCell h2⟩
 ·unfold kindT at hk
  split at hk <;> try simp at hk
  ·exact .inl ⟨_,‹_›⟩
  ·exact .inl ⟨_,‹_›⟩
  ·exact .inr ‹_›
 ·have:=(h5 n (Nat.le_refl _)).1
  rwa [← h3,List.take_length] at this
 ·have:=(h5 n (Nat.le_refl _)).2
  rwa [← h3,List.take_length] at this
theorem growBy_le (newLen B:Nat) (hB:newLen + (newLen + 768) / 4 ≤ B):∀ (rounds c:Nat),c ≤ B → Builtin.growBy newLen rounds c ≤ B
 | 0,c,h=>h
 | r + 1,c,h=>by
  unfold Builtin.growBy
  split
  ·exact h
  ·exact growBy_le newLen B hB r _ (by omega)
theorem nextcap_le {newLen old:Nat} (h:newLen ≤ 200000) (ho:old < newLen):Builtin.nextslicecap newLen old ≤ 251000:=by
 unfold Builtin.nextslicecap
 split
 ·omega
 ·split
  ·omega
  ·exact growBy_le newLen 251000 (by omega) 4 old (by omega)
theorem grownCap_le (w:World) (need old:Nat) (e:TypeId):need ≤ grownCap w need old e:=by
 unfold grownCap Question.cut
 exact Nat.le_add_right _ _
theorem drop_take_put {α:Type} (l:List α) (vs:List α) (a n:Nat) (hn:a + n + vs.length ≤ l.length) :
  ((l.take (a + n) ++ (vs ++ l.drop (a + n + vs.length))).drop a).take (n + vs.length) = (l.drop a).take n ++ vs:=by
 have e:(l.take (a + n)).drop a = (l.drop a).take n:=by rw [List.drop_take];congr 1;omega
 rw [List.drop_append_of_le_length (by simp;omega),e,← List.append_assoc,List.take_append_of_le_length (by simp;omega),List.take_of_length_le (by simp;omega)]
theorem append_sound (hi:In w0 m s w) {t tx rt:TypeId} {x y v:V} {a b:Value} {s':St} (h:appendV P s t tx x y = some (v,s')) (hx:RV m x a) (hy:RV m y b) :
  Made P w0 m (Builtin.append_ #[t,tx] rt #[a,b]) w v s':=by
 unfold appendV at h
 split at h <;> try simp at h
 rename_i e hu
 split at h <;> try simp at h
 rename_i z zc hz hzc
 split at h <;> try simp at h
 rename_i n new hmore
 obtain ⟨⟨⟨⟨hn,hsm⟩,hk⟩,hzl⟩,h⟩:=h
 obtain ⟨i,zv,h1,h2,h3,h4⟩:=zeroC_some (m:=m) hzc
 obtain ⟨i',hi',hsz⟩:=sz_some hz
 rw [h1] at hi'
 cases hi'
 have hb:i.bytes ≤ 1000000:=by simpa [small,h1] using hsm
 have hzs:zv.cells.size = z:=by have:=h3.len;simp at this;omega
 obtain ⟨news,n1,n2,hs⟩:=src_of (P:=P) hi hmore hy hk
 rw [← hsz] at hs
 have fit:∀ sLen sCap,sLen < 100000 → sCap < sLen + n → Builtin.nextslicecap (sLen + n) sCap * i.bytes ≤ 281474976710656:=fun sLen sCap g1 g2=>by
  have:=nextcap_le (newLen:=sLen + n) (by omega) g2
  exact Nat.le_trans (Nat.mul_le_mul this hb) (by omega)
 have zsz:∀ k,(Builtin.zeroCells zv.cells k).size = k * z:=fun k=>by simp [Builtin.zeroCells,hzs]
 split at h <;> try simp at h
 ·-- nothing there
  cases hx
  unfold appendN at h
  split at h
  ·rename_i hn0
   have hn0:n = 0:=by simpa using hn0
   simp at h
   obtain ⟨rfl,rfl⟩:=h
   subst hn0
   have hnil:news = []:=by have:=hs.newsLen;simp at this;exact this
   subst hnil
   exact ⟨m,w,_,m.le_refl,hi,.ns,run_append_nothing w t tx rt e i hu h1 none 0 0 (Nat.le_refl _) b hs⟩
  ·rename_i hn0
   have hn0:¬ n = 0:=by simpa using hn0
   obtain ⟨hnx,h⟩:=newO_some h
   simp at h
   obtain ⟨rfl,rfl⟩:=h
   have hg:=run_append_grow_src w t tx rt e i zv hu h1 h2 none 0 0 [] (by simp [Builtin.firstCells]) b n news hs (by omega) (by omega) (fit 0 0 (by omega) (by omega))
   simp only [Nat.zero_add,List.nil_append] at hg
   have hle:=grownCap_le w n 0 e
   have hnl:=hs.newsLen
   rw [hsz] at hnl
   have hob:ObR m (.row true new) 0 (n * z + (grownCap w n 0 e - n) * z) (.cells (news.toArray ++ Builtin.zeroCells zv.cells (grownCap w n 0 e - n)) e (0,0)):=by
    have hl:=n1.len
    refine .row (by simp [zsz,hnl]) (by omega) ?_ n2 (fun _=>rfl) (fun j _=>by simp)
    simp only [Array.toList_append,List.drop_zero,hl]
    rw [List.take_append_of_le_length (by simp),List.take_of_length_le (by simp)]
    exact n1
   obtain ⟨p,q⟩:=hi.drew.new hnx hob
   refine ⟨_,_,_,p,q,?_,hg⟩
   refine .sl (sh:=0) (off:=0) (M.ext_self _ _ _) hle ?_ (.inl rfl)
   rw [← Nat.add_mul]
   rw [show n + (grownCap w n 0 e - n) = grownCap w n 0 e by omega]
   omega
 ·rename_i id off len z'
  unfold appendS at h
  split at h <;> try simp at h
  rename_i hh
  rw [Bool.and_eq_true,Nat.blt_eq] at hh
  obtain ⟨hzz,hlen⟩:=hh
  have hzz:z' = z:=by simpa using hzz
  subst hzz
  split at h
  ·rename_i hn0
   have hn0:n = 0:=by simpa using hn0
   simp at h
   obtain ⟨rfl,rfl⟩:=h
   subst hn0
   have hnil:news = []:=by have:=hs.newsLen;simp at this;exact this
   subst hnil
   cases hx with
   | sl hm hl hz had=>exact ⟨m,w,_,m.le_refl,hi,.sl hm hl hz had,run_append_nothing w t tx rt e i hu h1 _ _ _ hl b hs⟩
  ·rename_i hn0
   have hn0:¬ n = 0:=by simpa using hn0
   split at h <;> try simp at h
   rename_i o ho
   split at h <;> try simp at h
   rename_i old hold
   obtain ⟨hnx,h⟩:=newO_some h
   simp at h
   obtain ⟨rfl,rfl⟩:=h
   have hnl:=hs.newsLen
   rw [hsz] at hnl
   have hl:=n1.len
   cases hx with
   | @sl _ _ _ _ r sh zz ad cap hm hlc hzc' had =>
   obtain ⟨c,e',fr,q1,q2,q3,q4,q5,q6,q7,q8⟩:=hi.row ho hm
   obtain ⟨o1,o2,o3⟩:=seg_sound q5 (by omega) hold
   have one_old:∀ y ∈ old,y.one = true:=fun y hy=>by
    obtain ⟨rfl,_⟩:=seg_eq hold
    exact q6 y (List.mem_of_mem_drop (List.mem_of_mem_take hy))
   have one':∀ y ∈ old ++ new,y.one = true:=fun y hy=>by rcases List.mem_append.1 hy with hy | hy;exact one_old y hy;exact n2 y hy
   have hfr:=q7 rfl
   subst hfr
   by_cases hroom:len + n ≤ cap
   ·-- in place
    have had':ad = sh + off:=had.resolve_right (by omega)
    subst had'
    have hmul:len * z' + n * z' ≤ cap * z':=by rw [← Nat.add_mul];exact Nat.mul_le_mul_right _ hroom
    have hin:∀ j,j < news.length → sh + off + len * z' + j < c.size:=fun j hj=>by omega
    have hr:=run_append_room_src w t tx rt e i hu h1 r (sh + off) len cap b n news hs hroom (fun j hj=>by
      rw [hsz,cell_at q2]
      have:=hin j hj
      simp [this]) (fun j hj=>by rw [hsz,frozen_at q2];simp)
    rw [hsz] at hr
    obtain ⟨g1,g2⟩:=setCells_heap r news (sh + off + len * z') c e' (0,0) w q2
    have hf:=foldl_put (sh + off + len * z') news 0 c (by omega)
    simp only [Nat.add_zero] at hf
    have hsz':(news.zipIdx.foldl (fun cs (p:Value × Nat)=>cs.setIfInBounds (sh + off + len * z' + p.2) p.1) c).size = zz:=by
     rw [← Array.length_toList,hf];simp;omega
    have hob:ObR m (.row true (old ++ new)) (sh + off) zz (.cells (news.zipIdx.foldl (fun cs (p:Value × Nat)=>cs.setIfInBounds (sh + off + len * z' + p.2) p.1) c) e' (0,0)):=by
     refine .row hsz' (by simp;omega) ?_ one' (fun _=>rfl) (fun j _=>by simp)
     rw [hf,List.length_append,o2,hl,drop_take_put _ _ _ _ (by simp;omega)]
     exact o1.append n1
    obtain ⟨p,q⟩:=hi.move hnx ho hm hob g1 g2 (setCells_below q1 news _ w)
    refine ⟨_,_,_,p,q,?_,hr⟩
    exact .sl (sh:=sh + off) (off:=0) (M.ext_self _ _ _) hroom (by omega) (.inl rfl)
   ·have hget:s.h.get id = some o:=by simp [H.get,ho]
    have hm1:more s.h z' (.sl id off len z') = some (len,old):=by simp [more,hget,hold]
    obtain ⟨nn,r1,r2,r3,r4,r5⟩:=more_sound (P:=P) hi hm1 (.sl hm hlc hzc' had)
    have hold':(Builtin.firstCells i.size len (.slice (some ⟨r,ad,none⟩) len cap)).run P w.drew = .ok nn.toArray w.drew:=by
     have:=(r5 len (Nat.le_refl _)).2
     rw [← r3,List.take_length] at this
     rw [hsz]
     exact this
    have hg:=run_append_grow_src w t tx rt e i zv hu h1 h2 (some ⟨r,ad,none⟩) len cap _ hold' b n news hs (by omega) (by omega) (fit len cap hlen (by omega))
    have hle:=grownCap_le w (len + n) cap e
    have hol:=r3
    have hob:ObR m (.row true (old ++ new)) 0 ((len + n) * z' + (grownCap w (len + n) cap e - (len + n)) * z') (.cells ((nn ++ news).toArray ++ Builtin.zeroCells zv.cells (grownCap w (len + n) cap e - (len + n))) e (0,0)):=by
     have hll:(old ++ new).length = (len + n) * z':=by rw [List.length_append,o2,hl,hnl,Nat.add_mul]
     refine .row ?_ (by omega) ?_ one' (fun _=>rfl) (fun j _=>by simp)
     ·simp only [Array.size_append,List.size_toArray,List.length_append,hol,hnl,zsz,Nat.add_mul]
     ·simp only [Array.toList_append,List.drop_zero,hll]
      rw [List.take_append_of_le_length (by simp only [List.length_append,hol,hnl,Nat.add_mul];omega),List.take_of_length_le (by simp only [List.length_append,hol,hnl,Nat.add_mul];omega)]
      exact r1.append n1
    obtain ⟨p,q⟩:=(hi.drew.kill (H.obj_lt ho)).new hnx hob
    refine ⟨_,_,_,p,q,?_,hg⟩
    refine .sl (sh:=0) (off:=0) (M.ext_self _ _ _) hle ?_ (.inl rfl)
    rw [← Nat.add_mul]
    rw [show len + n + (grownCap w (len + n) cap e - (len + n)) = grownCap w (len + n) cap e by omega]
    omega
theorem clear_sound (hi:In w0 m s w) {ty rt:TypeId} {tys:Array TypeId} (hty:tys[0]? = some ty) {x v:V} {a:Value} {s':St} (h:clearV P s ty x = some (v,s')) (hx:RV m x a) :
  Made P w0 m (Builtin.clear_ tys rt #[a]) w v s':=by
 unfold clearV at h
 split at h <;> try simp at h
 rename_i e hu
 split at h <;> try simp at h
 rename_i z zc hz hzc
 split at h <;> try simp at h
 ·obtain ⟨rfl,rfl⟩:=h
  cases hx
  exact ⟨m,w,undef,m.le_refl,hi,.und,by simp [Builtin.clear_,hty,run_underlying hu,undef]⟩
 ·rename_i id off len z'
  obtain ⟨⟨rfl,hzl⟩,h⟩:=h
  obtain ⟨i,zv,h1,h2,h3,h4⟩:=zeroC_some (m:=m) hzc
  split at h
  ·rename_i h0
   simp at h
   obtain ⟨rfl,rfl⟩:=h
   have h0:len = 0:=by simpa using h0
   subst h0
   cases hx
   exact ⟨m,w,undef,m.le_refl,hi,.und,by simp [Builtin.clear_,hty,run_underlying hu,undef]⟩
  ·rename_i h0
   have h0:¬ len = 0:=by simpa using h0
   split at h <;> try simp at h
   rename_i ap o ho
   split at h <;> simp at h
   rename_i r hr
   obtain ⟨rfl,rfl⟩:=h
   cases hx with
   | @sl _ _ _ _ rr sh zz ad cap hm hl hz' had =>
    have had':ad = sh + off:=had.resolve_right (by omega)
    subst had'
    have hzs:zv.cells.size = z':=by have:=h3.len;simp at this;omega
    obtain ⟨e1,e2⟩:=write_sound (P:=P) hi ho hm hr (zeros_sound h3 len) (fun x hx=>h4 x (repC_mem _ _ x hx))
    refine ⟨m,_,undef,m.le_refl,e2,.und,?_⟩
    obtain ⟨q,rfl⟩:∃ q,len = q + 1:=⟨len - 1,by omega⟩
    have hz1:(zeroValue e).run P w = .ok zv w:=by simp [zeroValue,typeInfo,h1,h2]
    simp only [Builtin.clear_,hty,List.getElem?_toArray,List.getElem?_cons_zero,Sem.run_bind,run_underlying hu,Result.andThen_ok,hz1,Builtin.zeroCells,e1]
    rfl
theorem copy_sound (hi:In w0 m s w) {ty rt:TypeId} {tys:Array TypeId} (hty:tys[0]? = some ty) {x y v:V} {a b:Value} {s':St} (h:copyV P s ty x y = some (v,s')) (hx:RV m x a) (hy:RV m y b) :
  Made P w0 m (Builtin.copy_ tys rt #[a,b]) w v s':=by
 unfold copyV at h
 split at h <;> try simp at h
 rename_i e hu
 split at h <;> try simp at h
 rename_i z hz
 split at h <;> try simp at h
 rename_i n new hmore
 obtain ⟨news,n1,n2,n3,n4,n5⟩:=more_sound (P:=P) hi hmore hy
 have g0:(#[a,b]:Array Value)[0]? = some a:=rfl
 have g1:(#[a,b]:Array Value)[1]? = some b:=rfl
 split at h <;> try simp at h
 ·obtain ⟨rfl,rfl⟩:=h
  cases hx
  have hf:=(n5 0 (Nat.zero_le _)).1
  refine ⟨m,w,.int .i64 0,m.le_refl,hi,.i,?_⟩
  simp only [Builtin.copy_,hty,g0,g1,Sem.run_bind,run_underlying hu,Result.andThen_ok,n4,run_sizeOf' hz,Nat.min_zero]
  rw [hf]
  rfl
 ·rename_i id off len z'
  obtain ⟨rfl,h⟩:=h
  split at h <;> try simp at h
  rename_i ap o ho
  split at h <;> try simp at h
  rename_i new' hnew
  split at h <;> simp at h
  rename_i r hr
  obtain ⟨rfl,rfl⟩:=h
  obtain ⟨rfl,hk⟩:=takeN_eq hnew
  cases hx with
  | @sl _ _ _ _ rr sh zz ad cap hm hl hz' had =>
   have hf:=(n5 (n.min len) (Nat.min_le_left _ _)).1
   have hst:∃ w',(storeCells ⟨rr,ad,none⟩ (news.take (n.min len * z'))).run P w = .ok () w' ∧ In w0 m ⟨s.h.upd id (some (.row ap r)),s.nx⟩ w':=by
    by_cases hc:cap = 0
    ·have hl0:len = 0:=by omega
     subst hl0
     have:n.min 0 * z' = 0:=by rw [show n.min 0 = 0 from Nat.min_zero n];simp
     simp only [this,List.take_zero] at hr ⊢
     refine ⟨w,rfl,?_⟩
     obtain ⟨c,e',fr,q1,q2,q3,q4,q5,q6,q7,q8⟩:=hi.row ho hm
     obtain ⟨_,p2⟩:=put_eq hr
     simp at p2
     subst p2
     exact hi.upd ho hm (.row q3 q4 q5 q6 q7 q8) q2 (fun _ _=>rfl) (Below.refl _ _)
    ·have had':ad = sh + off:=had.resolve_right hc
     subst had'
     obtain ⟨e1,e2⟩:=write_sound (P:=P) hi ho hm hr (n1.take _) (fun x hx=>n2 x (List.mem_of_mem_take hx))
     exact ⟨_,e1,e2⟩
   obtain ⟨w',hw,hi'⟩:=hst
   refine ⟨m,w',.int .i64 ((n.min len:Nat):Int),m.le_refl,hi',.i,?_⟩
   simp only [Builtin.copy_,hty,g0,g1,Sem.run_bind,run_underlying hu,Result.andThen_ok,n4,run_sizeOf' hz,hf,hw]
   rfl
theorem bytes_ints {l:List V} {r:List Value} {b:List Nat} (h:byteL l = some b) (hl:RVs m l r):(∀ n ∈ b,n < 256) ∧ r = (b.map Int.ofNat).map (Value.int .u8):=by
 induction l generalizing r b with
 | nil=>simp [byteL] at h;subst h;cases hl;exact ⟨by simp,rfl⟩
 | cons x l ih =>
  cases hl with
  | cons hx hs =>
   unfold byteL at h
   split at h <;> try simp at h
   ·rename_i hh;cases hh
   ·rename_i n r' heq
    obtain ⟨hn,h⟩:=h
    split at h <;> simp at h
    rename_i b' hb
    subst h
    injection heq with e1 e2
    subst e1 e2
    cases hx
    obtain ⟨h1,h2⟩:=ih hb hs
    exact ⟨fun k hk=>by rcases List.mem_cons.1 hk with rfl | hk;exact hn;exact h1 k hk,by simp [h2]⟩
theorem push_fold (b:List Nat):∀ s:ByteArray,((b.map Int.ofNat).foldl (fun r n=>r.push (UInt8.ofNat n.toNat)) s).data.toList = s.data.toList ++ b.map UInt8.ofNat:=by
 induction b with
 | nil=>simp
 | cons a b ih=>intro s;simp [ih]
theorem conv_sound (hi:In w0 m s w) {t:Tm} {a:Act} (ht:TR m t a) {x:Operand} {src dst:TypeId} {v:V} {s':St} (h:oConvE P s t src dst x = some (v,s')):Made P w0 m (convert src dst (a.eval x)) w v s':=by
 unfold oConvE at h
 split at h <;> try simp at h
 ·rename_i l e hx hs hd
  split at h <;> try simp at h
  rename_i he hz
  obtain ⟨hn,h⟩:=newO_some h
  simp at h
  obtain ⟨rfl,rfl⟩:=h
  have rx:=ev_sound ht hx
  generalize a.eval x = q at rx
  cases rx with
  | s h1 =>
   have hsz:=bytesV_size l
   have hcap:l.length ≤ (Question.appendCap l.length 0 e).cut (w.tape w.drawn (.appendCap l.length 0 e)):=Nat.le_add_right _ _
   generalize hc:(Question.appendCap l.length 0 e).cut (w.tape w.drawn (.appendCap l.length 0 e)) = cap at hcap
   have hel:(bytesV l).data.map (fun b=>Value.int .u8 b.toNat) = (byteCells (bytesV l)).toArray:=by apply Array.ext';simp [byteCells]
   have hbl:(byteCells (bytesV l)).length = l.length:=by rw [byteCells_length,hsz]
   have hob:ObR m (.row false (byteV l)) 0 cap (.cells ((byteCells (bytesV l)).toArray ++ Array.replicate (cap - l.length) (.int .u8 0)) e (cap,cap + 1)):=by
    refine .row (by simp [hbl];omega) (by simp [byteV_len];exact hcap) ?_ (byteV_one l) (fun hh=>by cases hh) (fun j hj=>by rw [byteV_len] at hj;simp;omega)
    simp only [Array.toList_append,List.drop_zero,byteV_len]
    rw [List.take_append_of_le_length (by simp [hbl]),List.take_of_length_le (by simp [hbl])]
    exact byteV_rel h1
   obtain ⟨p,q⟩:=hi.drew.new hn hob
   refine ⟨_,_,.slice (some ⟨w.heap.size,0,none⟩) l.length cap,p,q,.sl (sh:=0) (off:=0) (M.ext_self _ _ _) hcap (by omega) (.inl rfl),?_⟩
   simp only [convert,Sem.run_bind,run_underlying hs,run_underlying hd,run_underlying he,Result.andThen_ok]
   simp only [Conv.stringToBytes,Sem.run_bind,hsz,choose,Sem.run,Question.forced,Bool.false_eq_true,if_false,Result.andThen_ok,hc,newRow,newObj,Sem.run_pure,markStringish,shape,World.shape?,freeze,hel]
   have hp:∀ (o:Obj),(w.heap.push o)[w.heap.size]? = some o:=fun o=>by simp
   have hsz2:((byteCells (bytesV l)).toArray ++ Array.replicate (cap - l.length) (Value.int .u8 0)).size = cap:=by simp [hbl];omega
   have hmod:∀ (o:Obj) (f:Obj → Obj),(w.heap.push o).modify w.heap.size f = w.heap.push (f o):=fun o f=>by
    apply Array.ext_getElem?
    intro k
    simp only [Array.getElem?_modify,Array.getElem?_push]
    by_cases hk:w.heap.size = k
    ·subst hk;simp
    ·simp [hk,Ne.symm hk]
   simp only [hp,hsz2,Sem.run,Result.andThen_ok,World.freeze,hmod]
   rfl
 ·rename_i e hx hs hd
  split at h <;> simp at h
  rename_i he
  obtain ⟨rfl,rfl⟩:=h
  have rx:=ev_sound ht hx
  generalize a.eval x = q at rx
  cases rx
  refine ⟨m,w,.string (bytesV []),m.le_refl,hi,.s (by simp),?_⟩
  rw [run_convert_bytes_string w src dst e _ _ _ hs he hd]
  rfl
 ·rename_i id off len z e hx hs hd
  split at h <;> try simp at h
  rename_i n l he hm
  split at h <;> simp at h
  rename_i b hb
  obtain ⟨rfl,rfl⟩:=h
  have rx:=ev_sound ht hx
  generalize a.eval x = q at rx
  obtain ⟨news,n1,n2,n3,n4,n5⟩:=more_sound (P:=P) hi hm rx
  obtain ⟨h1,h2⟩:=bytes_ints hb n1
  refine ⟨m,w,.string (bytesV b),m.le_refl,hi,.s h1,?_⟩
  have hf:=(n5 n (Nat.le_refl _)).1
  rw [Nat.mul_one] at n3
  rw [Nat.mul_one,← n3,List.take_length,n3,h2] at hf
  have hbb:∀ s:ByteArray,s.data.toList = b.map UInt8.ofNat → s = bytesV b:=fun s hs=>by apply ByteArray.ext;apply Array.ext';simpa [bytesV] using hs
  cases rx with
  | @sl _ _ _ _ r sh zz ad cap hmm hl hzz had =>
   have hn:n = len:=by
    have:=n4 w
    simp [Builtin.lenOf] at this
    exact this.symm
   subst hn
   have hf':(loadCells ⟨r,ad,none⟩ n).run P w = .ok ((b.map Int.ofNat).map (Value.int .u8)).toArray w:=by
    have:=hf
    simp only [Builtin.firstCells,Nat.mul_one] at this
    exact this
   have e3:=hbb _ ((push_fold b ByteArray.empty).trans (by simp [ByteArray.empty,ByteArray.emptyWithCapacity];rfl))
   rw [run_convert_bytes_string w src dst e _ _ _ hs he hd,run_bytesToString w _ _ _ _ hf',e3]
end
section
variable {P:Program} {m:M} {w0 w:World} {s:St}
theorem sliceA_sound (hi:In w0 m s w) {t:TypeId} {x v:V} {lo hi':Option V} {a:Value} {b c:Option Value} (h:sliceA P s.h t x lo hi' = some v) (hx:RV m x a) (hlo:RO m lo b) (hhi:RO m hi' c) :
  Made P w0 m (Instr.sliceAt t a b c none) w v s:=by
 unfold sliceA at h
 split at h <;> try simp at h
 rename_i n e id off hu
 split at h <;> try simp at h
 rename_i z o hz hg
 obtain ⟨hle,h⟩:=h
 split at h <;> try simp at h
 rename_i hh h1
 split at h <;> try simp at h
 rename_i l h2
 subst h
 obtain ⟨ap,ho⟩:=H.get_some hg
 cases hx with
 | @p _ _ r sh zz hm =>
  obtain ⟨cc,ee,fr,q1,q2,q3,q4,q5,q6,q7,q8⟩:=hi.row ho hm
  obtain ⟨e1,e2,e3⟩:=bounds_sound (P:=P) (isS:=false) hlo hhi h1 h2 (Nat.le_refl _) w
  have hcap:l * z + (n - l) * z = n * z:=by rw [← Nat.add_mul];congr 1;omega
  refine ⟨m,w,.slice (some (if n = l then ⟨r,sh + off,none⟩ else ⟨r,sh + off + l * z,none⟩)) (hh - l) (n - l),m.le_refl,hi,?_,?_⟩
  ·by_cases hc:n = l
   ·rw [if_pos hc]
    exact .sl hm (by omega) (by omega) (.inr (by omega))
   ·rw [if_neg hc]
    exact .sl hm (by omega) (by omega) (.inl (by omega))
  ·simp only [Instr.sliceAt,Sem.run_bind,run_underlying hu,Result.andThen_ok,Instr.sureAddr,Sem.run_pure,e1,run_sizeOf' hz,Addr.add_eq]
theorem callE_sound (hi:In w0 m s w) {t:Tm} {a:Act} (ht:TR m t a) {o:Oper} {c:Call} (ho:o.op = .call c) {v:V} {s':St} (h:oCallE P s t c = some (v,s')):Does P w0 m a.eval o w v s':=by
 unfold oCallE at h
 split at h <;> try simp at h
 rename_i b hb
 unfold oCallB at h
 have hargs:∀ {l},evs t c.args.toList = some l → RVs m l (c.args.map a.eval).toList:=fun hl=>by simpa using evs_sound ht hl
 split at h <;> try simp at h
 ·unfold oAppend at h
  split at h <;> try simp at h
  rename_i x y ty tx hx hty
  have:=hargs hx
  generalize hz:c.args.map a.eval = z at this
  obtain ⟨z⟩:=z
  cases this with
  | cons h1 h2 =>
  cases h2 with
  | cons h3 h4 =>
  cases h4
  have htys:c.argTypes = #[ty,tx]:=by apply Array.ext';simpa using hty
  refine Does.of (append_sound (P:=P) (rt:=o.type) hi h h1 h3) ?_
  rw [run_builtin _ o c _ ho hb,hz,htys]
  rfl
 ·unfold oClear at h
  split at h <;> try simp at h
  rename_i x ty hx hty
  have:=hargs hx
  generalize hz:c.args.map a.eval = z at this
  obtain ⟨z⟩:=z
  cases this with
  | cons h1 h2 =>
  cases h2
  refine Does.of (clear_sound (P:=P) (rt:=o.type) hi hty h h1) ?_
  rw [run_builtin _ o c _ ho hb,hz]
  rfl
 ·unfold oCopy at h
  split at h <;> try simp at h
  rename_i x y ty hx hty
  have:=hargs hx
  generalize hz:c.args.map a.eval = z at this
  obtain ⟨z⟩:=z
  cases this with
  | cons h1 h2 =>
  cases h2 with
  | cons h3 h4 =>
  cases h4
  refine Does.of (copy_sound (P:=P) (rt:=o.type) hi hty h h1 h3) ?_
  rw [run_builtin _ o c _ ho hb,hz]
  rfl
theorem effV_sound (hi:In w0 m s w) {t:Tm} {a:Act} (ht:TR m t a) {o:Oper} {v:V} {s':St} (h:effV P s t o.op = some (v,s')):Does P w0 m a.eval o w v s':=by
 unfold effV at h
 split at h <;> try simp at h
 case h_1 ty x ho =>
  unfold oLoad at h
  split at h <;> try simp at h
  split at h <;> simp at h
  obtain ⟨rfl,rfl⟩:=h
  exact Does.of (load_sound hi ‹_› (ev_sound ht ‹_›)) (by simp [execOp,ho])
 case h_2 ty x y ho =>
  unfold oStore at h
  split at h <;> try simp at h
  obtain ⟨rfl,w',e1,e2⟩:=store_sound hi h (ev_sound ht ‹_›) (ev_sound ht ‹_›)
  exact Does.ofU e1 e2 (by simp [execOp,ho])
 case h_3 e ho=>exact Does.of (alloc_sound hi h) (by simp [execOp,ho])
 case h_4 e x ho=>exact Does.of (box_sound (e:=e) hi ht h) (by simp [execOp,ho])
 case h_5 ty len parts ho=>exact Does.of (buildS_sound hi ht h) (by simp [execOp,ho])
 case h_6 src dst x ho=>exact Does.of (conv_sound hi ht h) (by simp [execOp,ho])
 case h_7 ty x lo hi' mx ho =>
  unfold oSliceE at h
  split at h <;> try simp at h
  split at h <;> simp at h
  obtain ⟨rfl,rfl⟩:=h
  exact Does.of (sliceA_sound hi ‹_› (ev_sound ht ‹_›) (evo_sound ht ‹_›) (evo_sound ht ‹_›)) (by simp [execOp,ho])
 case h_8 ty x y ho=>exact Does.of (makeS_sound hi ht h) (by simp [execOp,ho])
 case h_9 ty x ho=>exact Does.of (range_sound hi ht h) (by simp [execOp,ho])
 case h_10 x str ho =>
  unfold oNext at h
  split at h <;> try simp at h
  exact Does.of (next_sound hi o.type h (ev_sound ht ‹_›)) (by simp [execOp,ho])
 case h_11 ty r ho=>exact Does.of (map_sound hi h ty a.eval) (by simp [execOp,ho])
 case h_12 ty x k ok ho =>
  unfold oLook at h
  split at h <;> try simp at h
  split at h <;> simp at h
  obtain ⟨rfl,rfl⟩:=h
  exact Does.of (look_sound hi ‹_› (ev_sound ht ‹_›) (ev_sound ht ‹_›)) (by simp [execOp,ho])
 case h_13 ty x k y ho =>
  unfold oIns at h
  split at h <;> try simp at h
  obtain ⟨rfl,w',e1,e2⟩:=ins_sound hi h (ev_sound ht ‹_›) (ev_sound ht ‹_›) (ev_sound ht ‹_›)
  exact Does.ofU e1 e2 (by simp [execOp,ho])
 case h_14 ty x k y ho =>
  unfold oIns at h
  split at h <;> try simp at h
  obtain ⟨rfl,w',e1,e2⟩:=ins_sound hi h (ev_sound ht ‹_›) (ev_sound ht ‹_›) (ev_sound ht ‹_›)
  exact Does.ofU e1 e2 (by simp [execOp,ho])
 case h_15 c ho=>exact callE_sound hi ht ho h
theorem opE_sound (hi:In w0 m s w) {t:Tm} {a:Act} (ht:TR m t a) {o:Oper} {v:V} {s':St} (h:opE P s t o.op = some (v,s')):Does P w0 m a.eval o w v s':=by
 unfold opE at h
 split at h
 ·simp at h
  obtain ⟨rfl,rfl⟩:=h
  exact Does.pure hi (pureV_sound ht ‹_›)
 ·exact effV_sound hi ht h
end
section
variable {P:Program} {m:M} {w0 w:World} {s:St}
def CallOK (P:Program) (call:Call'):Prop :=
 ∀ {w0:World} {m:M} {s:St} {w:World} {f:Nat} {l:List V} {v:V} {s':St} {args:Array Value},call s f l = some (v,s') → In w0 m s w → RVs m l args.toList →
  (∃ fn,P.funcs[f]? = some fn ∧ (fn.name == "runtime.NumGoroutine") = false ∧ fn.body.isSome = true ∧ Calls P f args w fun e w'=>∃ m' rv,e = .returned rv ∧ m.le m' ∧ In w0 m' s' w' ∧ RV m' v rv) ∨
  (∃ rv,RV m v rv ∧ s' = s ∧ (callFunc f args).run P w = .ok (.value rv) w)
theorem run_enter {f:Nat} {fn:Func} (hf:P.funcs[f]? = some fn) (hname:(fn.name == "runtime.NumGoroutine") = false) (hb:fn.body.isSome = true) (args:Array Value) (w:World):(callFunc f args).run P w = .ok (.enter f args) w:=by
 have h1:fn.name ≠ "runtime.NumGoroutine" := by simpa using hname
 obtain ⟨c,hc⟩:=Option.isSome_iff_exists.1 hb
 simp [callFunc,hf,h1,hc]
theorem run_callV (ρ:Operand → Value) (o:Oper) (c:Call) (f:Operand) (ho:o.op = .call c) (hb:c.callee = .value f) {g:Nat} {fs cs:Array Value} (hf:ρ f = .func (.func g) fs cs) :
  execOp ρ o = callFunc g (fs ++ c.args.map ρ ++ cs):=by
 unfold execOp
 simp only [ho,resolve,hb,hf,Deferred.ofValue]
 rfl
theorem opG_sound {call:Call'} (hc:CallOK P call) (hi:In w0 m s w) {t:Tm} {a:Act} (ht:TR m t a) {o:Oper} {v:V} {s':St} (h:opG P call s t o.op = some (v,s'))
  {K:Act → World → Prop} {Q:Exit → Act → World → Prop} (hk:∀ m' rv w',m.le m' → In w0 m' s' w' → RV m' v rv → K (a.put o.dst rv) w'):o.wp P a w K Q:=by
 have plain:opE P s t o.op = some (v,s') → o.wp P a w K Q:=fun h=>by
  obtain ⟨m',w',rv,h1,h2,h3,h4⟩:=opE_sound hi ht h
  unfold Oper.wp
  rcases h4 with h4 | ⟨rfl,h4⟩
  ·rw [h4];exact hk m' rv w' h1 h2 h3
  ·rw [h4];exact hk m' undef w' h1 h2 h3
 unfold opG at h
 split at h
 ·rename_i c ho
  unfold opK at h
  split at h
  ·rename_i f hf
   unfold opC at h
   split at h <;> try simp at h
   rename_i g first cap l hev hargs
   have rf:=ev_sound ht hev
   have ra:RVs m l (c.args.map a.eval).toList:=by simpa using evs_sound ht hargs
   generalize hq:a.eval f = q at rf
   cases rf with
   | @f _ _ _ fs cs r1 r2 =>
    have rall:RVs m (first ++ (l ++ cap)) (fs ++ c.args.map a.eval ++ cs).toList:=by
     simpa [List.append_assoc] using r1.append (ra.append r2)
    unfold Oper.wp
    rw [run_callV a.eval o c f ho hf hq]
    rcases hc h hi rall with ⟨fn,g1,g2,g3,g4⟩ | ⟨rv,g1,rfl,g3⟩
    ·rw [run_enter g1 g2 g3,Oper.upon_enter]
     refine g4.mono fun e w' he=>?_
     obtain ⟨m',rv,rfl,e1,e2,e3⟩:=he
     exact hk m' rv w' e1 e2 e3
    ·rw [g3]
     exact hk m rv w m.le_refl hi g1
  ·rename_i hne
   exact plain h
 ·rename_i hne
  refine plain ?_
  exact h
theorem setK_eq {β:Type} (v:V) (l:List V):∀ (i:Nat) (k:List V → β),setK v l i k = k (l.set i v):=by
 induction l with
 | nil=>intro i k;rfl
 | cons x l ih =>
  intro i k
  cases i with
  | zero=>rfl
  | succ i=>show setK v l i (fun r=>k (x :: r)) = _;rw [ih];rfl
def putT (t:Tm) (d:Option Tmp) (v:V):Tm:=match d with | some i=>t.set i v | none=>t
theorem putK_eq {β:Type} (t:Tm) (d:Option Tmp) (v:V) (k:Tm → β):putK t d v k = k (putT t d v):=by
 cases d with
 | none=>rfl
 | some i=>exact setK_eq v t i k
theorem RVs.set {l:List V} {r:List Value} (h:RVs m l r) {x:V} {v:Value} (hx:RV m x v) (i:Nat):RVs m (l.set i x) (r.set i v):=by
 induction l generalizing r i with
 | nil=>cases h;exact .nil
 | cons y l ih=>cases h with
  | cons hy hs=>cases i with
   | zero=>exact .cons hx hs
   | succ i=>exact .cons hy (ih hs i)
theorem TR.put {t:Tm} {a:Act} (ht:TR m t a) {v:V} {rv:Value} (hv:RV m v rv) (d:Option Tmp):TR m (putT t d v) (a.put d rv):=by
 cases d with
 | none=>exact ht
 | some i =>
  show RVs m (t.set i v) (a.tmps.setIfInBounds i rv).toList
  rw [Array.toList_setIfInBounds]
  exact RVs.set ht hv i
theorem put_defers (a:Act) (d:Option Tmp) (v:Value):(a.put d v).defers = a.defers:=by cases d <;> rfl
theorem getN_get {t:Tm} {a:Act} (ht:TR m t a) (d:Nat):(getN t d = none → a.tmps[d]? = none) ∧ (∀ x,getN t d = some x → ∃ v,a.tmps[d]? = some v ∧ RV m x v):=by
 rw [getN_eq]
 refine ⟨fun h=>?_,fun x h=>?_⟩
 ·rw [← Array.getElem?_toList,List.getElem?_eq_none_iff,← ht.len,← List.getElem?_eq_none_iff];exact h
 ·obtain ⟨v,h1,h2⟩:=ht.get d x h
  exact ⟨v,by rw [← Array.getElem?_toList];exact h1,h2⟩
theorem wanted_eq {ops:Array Oper} {t:Tm} {a:Act} (ht:TR m t a) (o:Oper):Region.wanted o (yielded ops a.tmps) = wantedV ops t o:=by
 unfold Region.wanted wantedV
 cases o.guard with
 | none=>rfl
 | some g =>
  obtain ⟨j,want⟩:=g
  dsimp only
  have:yielded ops a.tmps j = yl ops t j:=by
   unfold yielded yl
   cases hd:(ops[j]?).bind (·.dst) with
   | none=>rfl
   | some d =>
    dsimp only [Option.bind_some]
    obtain ⟨g1,g2⟩:=getN_get ht d
    cases hx:getN t d with
    | none=>rw [g1 hx]
    | some x =>
     obtain ⟨v,e1,e2⟩:=g2 x hx
     rw [e1]
     cases e2 <;> rfl
  rw [this]
  cases yl ops t j with
  | none=>rfl
  | some b=>cases b <;> cases want <;> rfl
theorem opsG_nil {call:Call'} {ops:Array Oper} {s:St} {t:Tm}:opsG P call ops [] s t = some (s,t):=rfl
theorem opsG_cons {call:Call'} {ops:Array Oper} {o:Oper} {l:List Oper} {s:St} {t:Tm}:opsG P call ops (o :: l) s t =
  if wantedV ops t o then (match opG P call s t o.op with | some (v,s')=>opsG P call ops l s' (putT t o.dst v) | none=>none) else opsG P call ops l s (putT t o.dst und):=by
 show @Bool.rec (fun _=>Option (St × Tm)) (putK t o.dst und fun t'=>opsG P call ops l s t') (@Option.rec (V × St) (fun _=>Option (St × Tm)) none (fun p=>@Prod.rec V St (fun _=>Option (St × Tm)) (fun v s'=>putK t o.dst v fun t'=>opsG P call ops l s' t') p) (opG P call s t o.op)) (wantedV ops t o) = _
 simp only [putK_eq]
 cases wantedV ops t o
 ·rfl
 ·cases opG P call s t o.op with
  | none=>rfl
  | some p=>rfl
theorem opsG_sound {call:Call'} (hc:CallOK P call) {ops:Array Oper} {Q:Exit → Act → World → Prop} {s':St} {t':Tm}:∀ (l:List Oper) {m:M} {s:St} {w:World} {t:Tm} {a:Act},opsG P call ops l s t = some (s',t') → In w0 m s w → TR m t a → a.defers = [] →
  (∀ m' a' w',m.le m' → In w0 m' s' w' → TR m' t' a' → a'.defers = [] → Q .normal a' w') → wpList P ops Q l a w
 | [],m,s,w,t,a,h,hi,ht,hd,hQ=>by
  rw [opsG_nil] at h
  simp at h
  obtain ⟨rfl,rfl⟩:=h
  exact hQ m a w m.le_refl hi ht hd
 | o :: l,m,s,w,t,a,h,hi,ht,hd,hQ=>by
  rw [opsG_cons] at h
  unfold wpList
  rw [wanted_eq ht]
  by_cases hw:wantedV ops t o = true
  ·rw [if_pos hw] at h ⊢
   split at h <;> try simp at h
   rename_i v s1 hop
   refine .inl (opG_sound hc hi ht hop fun m' rv w' h1 h2 h3=>?_)
   exact opsG_sound hc l h h2 (TR.put (ht.mono h1) h3 o.dst) (by rw [put_defers];exact hd) fun m'' a'' w'' k1 k2 k3 k4=>hQ m'' a'' w'' (M.le_trans h1 k1) k2 k3 k4
  ·rw [if_neg hw] at h ⊢
   exact opsG_sound hc l h hi (ht.put .und o.dst) (by rw [put_defers];exact hd) hQ
end
section
variable {P:Program} {m:M} {w0 w:World} {s:St}
mutual
theorem eqV_eq:∀ {x y:V},eqV x y = true → x = y
 | .i k x,.i k' y,h=>by simp only [eqV,Bool.and_eq_true,kEq_eq,eqI_eq,beq_iff_eq] at h;rw [h.1,h.2]
 | .b x,.b y,h=>by cases x <;> cases y <;> first | rfl | (simp [eqV] at h)
 | .s x,.s y,h=>by simp only [eqV,eqN_eq,beq_iff_eq] at h;rw [h]
 | .np,.np,_=>rfl
 | .p a b,.p c d,h=>by simp [eqV] at h;rw [h.1,h.2]
 | .ns,.ns,_=>rfl
 | .sl a b c d,.sl a' b' c' d',h=>by simp [eqV] at h;obtain ⟨⟨⟨rfl,rfl⟩,rfl⟩,rfl⟩:=h;rfl
 | .m a,.m b,h=>by simp [eqV] at h;rw [h]
 | .nm,.nm,_=>rfl
 | .nf,.nf,_=>rfl
 | .f g x y,.f g2 x2 y2,h=>by simp only [eqV,Bool.and_eq_true,Nat.beq_eq] at h;rw [h.1.1,eqVs_eq h.1.2,eqVs_eq h.2]
 | .a x,.a y,h=>by simp only [eqV] at h;rw [eqVs_eq h]
 | .t x,.t y,h=>by simp only [eqV] at h;rw [eqVs_eq h]
 | .i _ _,.b _,h | .i _ _,.s _,h | .i _ _,.np,h | .i _ _,.p _ _,h | .i _ _,.ns,h | .i _ _,.sl _ _ _ _,h | .i _ _,.m _,h | .i _ _,.nm,h | .i _ _,.f _ _ _,h | .i _ _,.nf,h | .i _ _,.a _,h | .i _ _,.t _,h=>by simp [eqV] at h
 | .b _,.i _ _,h | .b _,.s _,h | .b _,.np,h | .b _,.p _ _,h | .b _,.ns,h | .b _,.sl _ _ _ _,h | .b _,.m _,h | .b _,.nm,h | .b _,.f _ _ _,h | .b _,.nf,h | .b _,.a _,h | .b _,.t _,h=>by simp [eqV] at h
 | .s _,.i _ _,h | .s _,.b _,h | .s _,.np,h | .s _,.p _ _,h | .s _,.ns,h | .s _,.sl _ _ _ _,h | .s _,.m _,h | .s _,.nm,h | .s _,.f _ _ _,h | .s _,.nf,h | .s _,.a _,h | .s _,.t _,h=>by simp [eqV] at h
 | .np,.i _ _,h | .np,.b _,h | .np,.s _,h | .np,.p _ _,h | .np,.ns,h | .np,.sl _ _ _ _,h | .np,.m _,h | .np,.nm,h | .np,.f _ _ _,h | .np,.nf,h | .np,.a _,h | .np,.t _,h=>by simp [eqV] at h
 | .p _ _,.i _ _,h | .p _ _,.b _,h | .p _ _,.s _,h | .p _ _,.np,h | .p _ _,.ns,h | .p _ _,.sl _ _ _ _,h | .p _ _,.m _,h | .p _ _,.nm,h | .p _ _,.f _ _ _,h | .p _ _,.nf,h | .p _ _,.a _,h | .p _ _,.t _,h=>by simp [eqV] at h
 | .ns,.i _ _,h | .ns,.b _,h | .ns,.s _,h | .ns,.np,h | .ns,.p _ _,h | .ns,.sl _ _ _ _,h | .ns,.m _,h | .ns,.nm,h | .ns,.f _ _ _,h | .ns,.nf,h | .ns,.a _,h | .ns,.t _,h=>by simp [eqV] at h
 | .sl _ _ _ _,.i _ _,h | .sl _ _ _ _,.b _,h | .sl _ _ _ _,.s _,h | .sl _ _ _ _,.np,h | .sl _ _ _ _,.p _ _,h | .sl _ _ _ _,.ns,h | .sl _ _ _ _,.m _,h | .sl _ _ _ _,.nm,h | .sl _ _ _ _,.f _ _ _,h | .sl _ _ _ _,.nf,h | .sl _ _ _ _,.a _,h | .sl _ _ _ _,.t _,h=>by simp [eqV] at h
 | .m _,.i _ _,h | .m _,.b _,h | .m _,.s _,h | .m _,.np,h | .m _,.p _ _,h | .m _,.ns,h | .m _,.sl _ _ _ _,h | .m _,.nm,h | .m _,.f _ _ _,h | .m _,.nf,h | .m _,.a _,h | .m _,.t _,h=>by simp [eqV] at h
 | .nm,.i _ _,h | .nm,.b _,h | .nm,.s _,h | .nm,.np,h | .nm,.p _ _,h | .nm,.ns,h | .nm,.sl _ _ _ _,h | .nm,.m _,h | .nm,.f _ _ _,h | .nm,.nf,h | .nm,.a _,h | .nm,.t _,h=>by simp [eqV] at h
 | .f _ _ _,.i _ _,h | .f _ _ _,.b _,h | .f _ _ _,.s _,h | .f _ _ _,.np,h | .f _ _ _,.p _ _,h | .f _ _ _,.ns,h | .f _ _ _,.sl _ _ _ _,h | .f _ _ _,.m _,h | .f _ _ _,.nm,h | .f _ _ _,.nf,h | .f _ _ _,.a _,h | .f _ _ _,.t _,h=>by simp [eqV] at h
 | .nf,.i _ _,h | .nf,.b _,h | .nf,.s _,h | .nf,.np,h | .nf,.p _ _,h | .nf,.ns,h | .nf,.sl _ _ _ _,h | .nf,.m _,h | .nf,.nm,h | .nf,.f _ _ _,h | .nf,.a _,h | .nf,.t _,h=>by simp [eqV] at h
 | .a _,.i _ _,h | .a _,.b _,h | .a _,.s _,h | .a _,.np,h | .a _,.p _ _,h | .a _,.ns,h | .a _,.sl _ _ _ _,h | .a _,.m _,h | .a _,.nm,h | .a _,.f _ _ _,h | .a _,.nf,h | .a _,.t _,h=>by simp [eqV] at h
 | .t _,.i _ _,h | .t _,.b _,h | .t _,.s _,h | .t _,.np,h | .t _,.p _ _,h | .t _,.ns,h | .t _,.sl _ _ _ _,h | .t _,.m _,h | .t _,.nm,h | .t _,.f _ _ _,h | .t _,.nf,h | .t _,.a _,h=>by simp [eqV] at h
theorem eqVs_eq:∀ {x y:List V},eqVs x y = true → x = y
 | [],[],_=>rfl
 | x :: r,y :: q,h=>by simp only [eqVs,Bool.and_eq_true] at h;rw [eqV_eq h.1,eqVs_eq h.2]
 | [],_ :: _,h=>by simp [eqVs] at h
 | _ :: _,[],h=>by simp [eqVs] at h
end
theorem sameV_eq {x:Option V} {v:V}:sameV x v = true → x = some v:=by
 unfold sameV
 split
 ·intro h;rw [eqV_eq h]
 ·intro h;cases h
end
section
variable {P:Program} {m:M} {w0 w:World} {s:St} {t t':Tm}
theorem nth_set_ne (t:Tm) (i j:Nat) (v:V) (h:i ≠ j):nth (t.set i v) j = nth t j:=by
 rw [nth_get,nth_get]
 simp [List.getD,List.getElem?_set,h]
theorem getN_set_ne (t:Tm) (i j:Nat) (v:V) (h:i ≠ j):getN (t.set i v) j = getN t j:=by
 rw [getN_eq,getN_eq]
 simp [List.getElem?_set,h]
theorem ev_put {x:Operand} {d:Option Tmp} {v:V} (h:∀ i,d = some i → x ≠ .tmp i):ev (putT t d v) x = ev t x:=by
 cases d with
 | none=>rfl
 | some i =>
  cases x with
  | tmp j=>simp only [ev,putT];rw [nth_set_ne _ _ _ _ (fun e=>h i rfl (by rw [e]))]
  | _=>rfl
section congr
theorem evs_congr:∀ {l:List Operand},(∀ x ∈ l,ev t x = ev t' x) → evs t l = evs t' l
 | [],_=>rfl
 | x :: l,h=>by simp only [evs,h x (by simp),evs_congr (l:=l) fun y hy=>h y (by simp [hy])]
theorem evp_congr:∀ {l:List (Nat × Operand)},(∀ p ∈ l,ev t p.2 = ev t' p.2) → evp t l = evp t' l
 | [],_=>rfl
 | (i,x) :: l,h=>by simp only [evp,h (i,x) (by simp),evp_congr (l:=l) fun y hy=>h y (by simp [hy])]
theorem evo_congr {x:Option Operand} (h:∀ y,x = some y → ev t y = ev t' y):evo t x = evo t' x:=by
 cases x with
 | none=>rfl
 | some y=>simp only [evo,h y rfl]
theorem evs_arr {a:Array Operand} (h:∀ x ∈ a,ev t x = ev t' x):evs t a.toList = evs t' a.toList:=evs_congr fun x hx=>h x (by simpa using hx)
theorem call_ops {c:Call} {x:Operand} (hx:x ∈ c.args):x ∈ c.operands:=by simp [Call.operands,hx]
theorem pureV_congr {o:Op} (h:∀ x ∈ o.operands,ev t x = ev t' x):pureV P t o = pureV P t' o:=by
 cases o <;> simp only [Op.operands] at h <;> simp only [pureV]
 case move x=>exact h x (by simp)
 case assign x=>exact h x (by simp)
 case pick c a b=>simp only [oPick,h c (by simp),h a (by simp),h b (by simp)]
 case build ty ps=>simp only [oBuild,evp_congr (l:=ps.toList) fun p hp=>h p.2 (by simp;exact ⟨p.1,by simpa using hp⟩)]
 case nilCheck x=>simp only [oNil,h x (by simp)]
 case binOp op ty x y yt=>simp only [oBin,h x (by simp),h y (by simp)]
 case unOp op ty x=>simp only [oUn,h x (by simp)]
 case convert a b x=>simp only [oConv,h x (by simp)]
 case makeFunc fn first cap=>simp only [oFunc,evs_arr fun x hx=>h x (Array.mem_append_left _ hx),evs_arr fun x hx=>h x (Array.mem_append_right _ hx)]
 case slice ty x lo hi mx=>simp only [oSlice,h x (by simp),evo_congr (x:=lo) fun y hy=>h y (by simp [hy]),evo_congr (x:=hi) fun y hy=>h y (by simp [hy])]
 case fieldAddr ty x f=>simp only [oFieldA,h x (by simp)]
 case field ty x f=>simp only [oField,h x (by simp)]
 case indexAddr ty x i=>simp only [oIndexA,h x (by simp),h i (by simp)]
 case index ty x i=>simp only [oIndex,h x (by simp),h i (by simp)]
 case extract x i=>simp only [oExtract,h x (by simp)]
 case call c =>
  simp only [oCallP]
  split
  ·simp only [oBuiltin]
   have:=evs_arr (t:=t) (t':=t') (a:=c.args) fun x hx=>h x (call_ops hx)
   split <;> simp only [oLen,oMM,this]
  ·rfl
theorem effV_congr {o:Op} (h:∀ x ∈ o.operands,ev t x = ev t' x):effV P s t o = effV P s t' o:=by
 cases o <;> simp only [Op.operands] at h <;> simp only [effV]
 case load ty a=>simp only [oLoad,h a (by simp)]
 case store ty a x=>simp only [oStore,h a (by simp),h x (by simp)]
 case box e x=>simp only [oBox,h x (by simp)]
 case buildSlice ty n ps=>simp only [oBuildS,evp_congr (l:=ps.toList) fun p hp=>h p.2 (by simp;exact ⟨p.1,by simpa using hp⟩)]
 case convert a b x=>simp only [oConvE,h x (by simp)]
 case slice ty x lo hi mx=>simp only [oSliceE,h x (by simp),evo_congr (x:=lo) fun y hy=>h y (by simp [hy]),evo_congr (x:=hi) fun y hy=>h y (by simp [hy])]
 case makeSlice ty x y=>simp only [oMakeS,h x (by simp),h y (by simp)]
 case range ty x=>simp only [oRange,h x (by simp)]
 case next x b=>simp only [oNext,h x (by simp)]
 case lookup ty x k ok=>simp only [oLook,h x (by simp),h k (by simp)]
 case mapUpdate ty x k y=>simp only [oIns,h x (by simp),h k (by simp),h y (by simp)]
 case insert ty x k y=>simp only [oIns,h x (by simp),h k (by simp),h y (by simp)]
 case call c =>
  simp only [oCallE]
  split
  ·simp only [oCallB]
   have:=evs_arr (t:=t) (t':=t') (a:=c.args) fun x hx=>h x (call_ops hx)
   split <;> simp only [oAppend,oClear,oCopy,this]
  ·rfl
theorem opE_congr {o:Op} (h:∀ x ∈ o.operands,ev t x = ev t' x):opE P s t o = opE P s t' o:=by
 unfold opE
 rw [pureV_congr h,effV_congr h]
theorem opG_congr {call:Call'} {o:Op} (h:∀ x ∈ o.operands,ev t x = ev t' x):opG P call s t o = opG P call s t' o:=by
 unfold opG
 split
 ·rename_i c
  unfold opK
  split
  ·rename_i f hf
   simp only [opC,h f (by simp [Op.operands,Call.operands,hf]),evs_arr (t:=t) (t':=t') (a:=c.args) fun x hx=>h x (call_ops hx)]
  ·exact opE_congr h
 ·exact opE_congr h
theorem ldE_congr {o:Op} (h:∀ x ∈ o.operands,ev t x = ev t' x):ldE P s t o = ldE P s t' o:=by
 unfold ldE
 split
 ·rename_i ty a;rw [h a (by simp [Op.operands])]
 ·rfl
end congr
theorem looks_ne {ops:Array Oper} {o:Oper} {d:Option Tmp} (h:∀ i,d = some i → i ∉ o.looksAt ops):∀ x ∈ o.op.operands,∀ i,d = some i → x ≠ .tmp i:=fun x hx i hi e=>by
 subst e
 exact h i hi (List.mem_append_left _ (List.mem_filterMap.2 ⟨.tmp i,by simpa using hx,rfl⟩))
theorem wantedV_put {ops:Array Oper} {o:Oper} {d:Option Tmp} {v:V} (h:∀ i,d = some i → i ∉ o.looksAt ops):wantedV ops (putT t d v) o = wantedV ops t o:=by
 cases d with
 | none=>rfl
 | some i =>
  unfold wantedV
  cases hg:o.guard with
  | none=>rfl
  | some gw =>
   obtain ⟨g,want⟩:=gw
   have:yl ops (putT t (some i) v) g = yl ops t g:=by
    unfold yl
    cases ht:(ops[g]?).bind (·.dst) with
    | none=>rfl
    | some u =>
     have hne:i ≠ u:=fun e=>h i rfl (by subst e;simp [Oper.looksAt,hg,ht])
     simp only [putT,getN_set_ne _ _ _ _ hne]
   simp only [this]
theorem effD_put {call:Call'} {ops:Array Oper} {o:Oper} {d:Option Tmp} {v:V} (h:∀ i,d = some i → i ∉ o.looksAt ops):effD P call ops s (putT t d v) o = effD P call ops s t o:=by
 have hx:∀ x ∈ o.op.operands,ev (putT t d v) x = ev t x:=fun x hx=>ev_put (looks_ne h x hx)
 unfold effD
 rw [wantedV_put h,pureV_congr hx,ldE_congr hx,opG_congr hx]
theorem putT_comm {d e:Option Tmp} {u v:V} (h:∀ i,d = some i → e ≠ some i):putT (putT t d u) e v = putT (putT t e v) d u:=by
 cases d with
 | none=>rfl
 | some i=>cases e with
  | none=>rfl
  | some j=>exact List.set_comm _ _ (fun hij=>h i rfl (hij ▸ rfl))
end
section
variable {P:Program} {m:M} {w0 w:World} {call:Call'} {ops:Array Oper} {M:List Nat}
theorem stepD_eq {c:Cfg} {x:Nat × Oper}:stepD P call ops M c x = (effD P call ops c.s c.t x.2).bind (applyD P M x.1 x.2.dst c):=by
 unfold stepD
 cases effD P call ops c.s c.t x.2 <;> rfl
theorem runD_nil {c:Cfg}:runD P call ops M [] c = some c:=rfl
theorem runD_cons {x:Nat × Oper} {l:List (Nat × Oper)} {c:Cfg}:runD P call ops M (x :: l) c = (stepD P call ops M c x).bind (runD P call ops M l):=by
 show @Option.rec Cfg (fun _=>Option Cfg) none (runD P call ops M l) (stepD P call ops M c x) = _
 cases stepD P call ops M c x <;> rfl
mutual
theorem eqV_refl:∀ x:V,eqV x x = true
 | .i k x=>by simp only [eqV,Bool.and_eq_true,kEq_eq,eqI_eq,beq_self_eq_true,and_self]
 | .b x=>by cases x <;> rfl
 | .s x=>by simp only [eqV,eqN_eq,beq_self_eq_true]
 | .np=>rfl
 | .p a b=>by simp [eqV]
 | .ns=>rfl
 | .sl a b c d=>by simp [eqV]
 | .m a=>by simp [eqV]
 | .nm=>rfl
 | .nf=>rfl
 | .f g x y=>by simp [eqV,eqVs_refl x,eqVs_refl y]
 | .a x=>by simp [eqV,eqVs_refl x]
 | .t x=>by simp [eqV,eqVs_refl x]
theorem eqVs_refl:∀ x:List V,eqVs x x = true
 | []=>rfl
 | x :: r=>by simp [eqVs,eqV_refl x,eqVs_refl r]
end
structure Cfg.le (c' c:Cfg):Prop where
 s:c'.s = c.s
 t:c'.t = c.t
 held:∀ x ∈ c'.held,x ∈ c.held
 hist:∀ x ∈ c'.hist,x ∈ c.hist
theorem Cfg.le_refl (c:Cfg):c.le c:=⟨rfl,rfl,fun _ h=>h,fun _ h=>h⟩
theorem Cfg.le_trans {a b c:Cfg} (h:a.le b) (k:b.le c):a.le c:=⟨h.s.trans k.s,h.t.trans k.t,fun x hx=>k.held x (h.held x hx),fun x hx=>k.hist x (h.hist x hx)⟩
theorem all_sub {α:Type} {p:α → Bool} {l l':List α} (h:∀ x ∈ l',x ∈ l) (hp:l.all p = true):l'.all p = true:=by
 rw [List.all_eq_true] at *
 exact fun x hx=>hp x (h x hx)
theorem applyD_le {i:Nat} {d:Option Tmp} {c c' c1:Cfg} {e:Eff} (hle:c'.le c) (h:applyD P M i d c e = some c1):∃ c1',applyD P M i d c' e = some c1' ∧ c1'.le c1:=by
 cases e with
 | val v =>
  simp only [applyD,putK_eq,Option.some.injEq] at h ⊢
  subst h
  exact ⟨_,rfl,⟨hle.s,by rw [hle.t],hle.held,hle.hist⟩⟩
 | ld ty id off v =>
  simp only [applyD,putK_eq] at h ⊢
  split at h <;> simp at h
  subst h
  rename_i hh
  have hh':histOK P M i ty id off v c'.hist = true:=all_sub hle.hist hh
  rw [if_pos hh']
  refine ⟨_,rfl,⟨hle.s,by simp only;rw [hle.t],fun x hx=>?_,hle.hist⟩⟩
  simp only [List.mem_cons] at hx ⊢
  exact hx.imp (fun h=>h) (hle.held x)
 | big v s =>
  simp only [applyD,putK_eq] at h ⊢
  split at h <;> simp at h
  subst h
  rename_i hh
  have hh':heldOK P M i s.h c'.held = true:=all_sub hle.held hh
  rw [if_pos hh']
  refine ⟨_,rfl,⟨rfl,by simp only;rw [hle.t],hle.held,fun x hx=>?_⟩⟩
  simp only [List.mem_cons] at hx ⊢
  exact hx.imp (fun h=>by rw [h,hle.s]) (hle.hist x)
theorem stepD_le {x:Nat × Oper} {c c' c1:Cfg} (hle:c'.le c) (h:stepD P call ops M c x = some c1):∃ c1',stepD P call ops M c' x = some c1' ∧ c1'.le c1:=by
 rw [stepD_eq] at *
 rw [hle.s,hle.t]
 cases he:effD P call ops c.s c.t x.2 with
 | none=>rw [he] at h;cases h
 | some e=>rw [he] at h;exact applyD_le hle h
theorem runD_le:∀ {l:List (Nat × Oper)} {c c' c1:Cfg},c'.le c → runD P call ops M l c = some c1 → ∃ c1',runD P call ops M l c' = some c1' ∧ c1'.le c1
 | [],c,c',c1,hle,h=>by rw [runD_nil] at *;cases h;exact ⟨c',rfl,hle⟩
 | x :: l,c,c',c1,hle,h=>by
  rw [runD_cons] at *
  cases hs:stepD P call ops M c x with
  | none=>rw [hs] at h;cases h
  | some c2 =>
   rw [hs] at h
   obtain ⟨c2',h1,h2⟩:=stepD_le hle hs
   rw [h1]
   exact runD_le h2 h
theorem effD_val {o:Oper} {s s':St} {t:Tm} {v:V} (h:effD P call ops s t o = some (.val v)):effD P call ops s' t o = some (.val v):=by
 unfold effD at h ⊢
 by_cases hw:wantedV ops t o = true
 ·rw [if_pos hw] at h ⊢
  split at h
  ·exact h
  ·unfold ldE at h
   split at h <;> try simp at h
   split at h <;> try simp at h
   split at h <;> simp at h
  ·split at h <;> simp at h
 ·rw [if_neg hw] at h ⊢
  exact h
theorem effD_ld {o:Oper} {s s':St} {t:Tm} {ty:TypeId} {id off:Nat} {v:V} (h:effD P call ops s t o = some (.ld ty id off v)) :
  s.h.load P ty id off = some v ∧ (s'.h.load P ty id off = some v → effD P call ops s' t o = some (.ld ty id off v)):=by
 unfold effD at h ⊢
 by_cases hw:wantedV ops t o = true
 ·rw [if_pos hw] at h ⊢
  split at h
  ·split at h <;> simp at h
  ·unfold ldE at h ⊢
   split at h <;> try simp at h
   split at h <;> try simp at h
   split at h <;> simp at h
   obtain ⟨rfl,rfl,rfl,rfl⟩:=h
   rename_i hl
   refine ⟨hl,fun h'=>?_⟩
   simp only [h']
  ·split at h <;> simp at h
 ·rw [if_neg hw] at h
  simp at h
theorem effD_big {o:Oper} {s s1:St} {t:Tm} {v:V} (h:effD P call ops s t o = some (.big v s1)):Nat.beq (cls o.op) 2 = true:=by
 unfold effD at h
 split at h
 ·split at h
  ·split at h <;> simp at h
  ·unfold ldE at h
   split at h <;> try simp at h
   split at h <;> try simp at h
   split at h <;> simp at h
  ·rename_i h0 h1
   have:cls o.op = 0 ∨ cls o.op = 1 ∨ cls o.op = 2:=by
    unfold cls
    split <;> try simp
    split <;> simp
   rcases this with h | h | h
   ·exact absurd h h0
   ·exact absurd h h1
   ·simp [h]
 ·simp at h
theorem swapD {x y:Nat × Oper} {c c1 c2:Cfg} (hp:pairOK ops M x y = true) (hn:ordM M x.1 y.1 = false) (hn':ordM M y.1 x.1 = false) (h1:stepD P call ops M c x = some c1) (h2:stepD P call ops M c1 y = some c2) :
  ∃ d1 d2,stepD P call ops M c y = some d1 ∧ stepD P call ops M d1 x = some d2 ∧ d2.le c2:=by
 unfold pairOK at hp
 rw [hn,Bool.false_or,Bool.and_eq_true] at hp
 obtain ⟨hap,hcls⟩:=hp
 obtain ⟨a1,a2,a3⟩:=Oper.apart_spec hap
 rw [stepD_eq] at h1 h2
 cases he:effD P call ops c.s c.t x.2 with
 | none=>rw [he] at h1;cases h1
 | some e =>
 rw [he] at h1
 cases hf:effD P call ops c1.s c1.t y.2 with
 | none=>rw [hf] at h2;cases h2
 | some f =>
 rw [hf] at h2
 simp only [Option.bind_some] at h1 h2
 have pc:∀ u v,putT (putT c.t x.2.dst u) y.2.dst v = putT (putT c.t y.2.dst v) x.2.dst u:=fun u v=>putT_comm (fun i hi=>a2 i hi)
 have ey:∀ s u,effD P call ops s (putT c.t x.2.dst u) y.2 = effD P call ops s c.t y.2:=fun s u=>effD_put (fun i hi=>a1 i hi)
 have ex:∀ s u,effD P call ops s (putT c.t y.2.dst u) x.2 = effD P call ops s c.t x.2:=fun s u=>effD_put (fun i hi=>a3 i hi)
 simp only [stepD_eq]
 cases e with
 | val u =>
  simp only [applyD,putK_eq,Option.some.injEq] at h1
  subst h1
  rw [ey] at hf
  simp only [hf,Option.bind_some]
  cases f with
  | val v =>
   simp only [applyD,putK_eq,Option.some.injEq] at h2 ⊢
   subst h2
   refine ⟨_,_,rfl,?_,Cfg.le_refl _⟩
   simp only [ex,he,Option.bind_some,applyD,putK_eq,pc]
  | ld ty id off v =>
   simp only [applyD,putK_eq] at h2 ⊢
   split at h2 <;> simp at h2
   subst h2
   rename_i hh
   rw [if_pos hh]
   refine ⟨_,_,rfl,?_,Cfg.le_refl _⟩
   simp only [ex,he,Option.bind_some,applyD,putK_eq,pc]
  | big v s1 =>
   simp only [applyD,putK_eq] at h2 ⊢
   split at h2 <;> simp at h2
   subst h2
   rename_i hh
   rw [if_pos hh]
   refine ⟨_,_,rfl,?_,Cfg.le_refl _⟩
   simp only [ex,effD_val he,Option.bind_some,applyD,putK_eq,pc]
 | ld ty id off u =>
  obtain ⟨hl,hl'⟩:=effD_ld (s':=c.s) he
  simp only [applyD,putK_eq] at h1
  split at h1 <;> simp at h1
  subst h1
  rename_i hh1
  rw [ey] at hf
  simp only [hf,Option.bind_some]
  cases f with
  | val v =>
   simp only [applyD,putK_eq,Option.some.injEq] at h2 ⊢
   subst h2
   refine ⟨_,_,rfl,?_,Cfg.le_refl _⟩
   simp only [ex,he,Option.bind_some,applyD,putK_eq,pc,hh1,if_true]
  | ld ty' id' off' v =>
   simp only [applyD,putK_eq] at h2 ⊢
   split at h2 <;> simp at h2
   subst h2
   rename_i hh
   rw [if_pos hh]
   refine ⟨_,⟨(x.1,ty,id,off,u) :: (y.1,ty',id',off',v) :: c.held,c.hist,c.s,putT (putT c.t x.2.dst u) y.2.dst v⟩,rfl,?_,⟨rfl,rfl,fun z hz=>?_,fun z hz=>hz⟩⟩
   ·simp only [ex,he,Option.bind_some,applyD,putK_eq,pc,hh1,if_true]
   ·simp only [List.mem_cons] at hz ⊢
    rcases hz with h | h | h
    ·exact .inr (.inl h)
    ·exact .inl h
    ·exact .inr (.inr h)
  | big v s1 =>
   simp only [applyD,putK_eq] at h2 ⊢
   split at h2 <;> simp at h2
   subst h2
   rename_i hh
   simp only [heldOK,List.all_cons,Bool.and_eq_true] at hh
   obtain ⟨hh0,hhr⟩:=hh
   rw [hn,Bool.false_or] at hh0
   have hl1:=sameV_eq hh0
   have he':=(effD_ld (s':=s1) he).2 hl1
   rw [if_pos (by exact hhr)]
   refine ⟨_,⟨(x.1,ty,id,off,u) :: c.held,(y.1,c.s.h) :: c.hist,s1,putT (putT c.t x.2.dst u) y.2.dst v⟩,rfl,?_,Cfg.le_refl _⟩
   have:histOK P M x.1 ty id off u ((y.1,c.s.h) :: c.hist) = true:=by
    simp only [histOK,List.all_cons,Bool.and_eq_true]
    refine ⟨?_,hh1⟩
    rw [hl]
    simp only [hn',Bool.false_or,sameV,eqV_refl]
   simp only [ex,he',Option.bind_some,applyD,putK_eq,pc,this,if_true]
 | big u s1 =>
  have hc2:=effD_big he
  simp only [applyD,putK_eq] at h1
  split at h1 <;> simp at h1
  subst h1
  rename_i hh1
  rw [ey] at hf
  cases f with
  | val v =>
   have hf':=effD_val (s':=c.s) hf
   simp only [hf',Option.bind_some]
   simp only [applyD,putK_eq,Option.some.injEq] at h2 ⊢
   subst h2
   refine ⟨_,_,rfl,?_,Cfg.le_refl _⟩
   simp only [ex,he,Option.bind_some,applyD,putK_eq,pc,hh1,if_true]
  | ld ty id off v =>
   simp only [applyD,putK_eq] at h2
   split at h2 <;> simp at h2
   subst h2
   rename_i hh
   simp only [histOK,List.all_cons,Bool.and_eq_true] at hh
   obtain ⟨hh0,hhr⟩:=hh
   rw [hn,Bool.false_or] at hh0
   have hl0:=sameV_eq hh0
   have hl1:=(effD_ld (s':=s1) hf).1
   have hf':=(effD_ld (s':=c.s) hf).2 hl0
   simp only [hf',Option.bind_some]
   simp only [applyD,putK_eq]
   rw [if_pos (by exact hhr)]
   refine ⟨_,⟨(y.1,ty,id,off,v) :: c.held,(x.1,c.s.h) :: c.hist,s1,putT (putT c.t x.2.dst u) y.2.dst v⟩,rfl,?_,Cfg.le_refl _⟩
   have:heldOK P M x.1 s1.h ((y.1,ty,id,off,v) :: c.held) = true:=by
    simp only [heldOK,List.all_cons,Bool.and_eq_true]
    refine ⟨?_,hh1⟩
    rw [hl1]
    simp only [hn',Bool.false_or,sameV,eqV_refl]
   simp only [ex,he,Option.bind_some,applyD,putK_eq,pc,this,if_true]
  | big v s2 =>
   have hc2':=effD_big hf
   rw [hc2,hc2'] at hcls
   simp at hcls
end
section
variable {P:Program} {m:M} {w0 w:World} {call:Call'} {ops:Array Oper} {Mk:List Nat}
theorem frontD {y:Nat × Oper} {l2:List (Nat × Oper)}:∀ {l1:List (Nat × Oper)} {c c':Cfg},(∀ x ∈ l1,pairOK ops Mk x y = true ∧ ordM Mk x.1 y.1 = false ∧ ordM Mk y.1 x.1 = false) → runD P call ops Mk (l1 ++ y :: l2) c = some c' →
  ∃ c1 c2,stepD P call ops Mk c y = some c1 ∧ runD P call ops Mk (l1 ++ l2) c1 = some c2 ∧ c2.le c'
 | [],c,c',_,h=>by
  simp only [List.nil_append,runD_cons] at h
  cases hs:stepD P call ops Mk c y with
  | none=>rw [hs] at h;cases h
  | some c1=>rw [hs] at h;exact ⟨c1,c',rfl,h,Cfg.le_refl _⟩
 | x :: l1,c,c',hx,h=>by
  simp only [List.cons_append,runD_cons] at h
  cases hs:stepD P call ops Mk c x with
  | none=>rw [hs] at h;cases h
  | some c1 =>
   rw [hs] at h
   obtain ⟨c2,c3,e1,e2,e3⟩:=frontD (l1:=l1) (fun z hz=>hx z (by simp [hz])) h
   obtain ⟨p1,p2,p3⟩:=hx x (by simp)
   obtain ⟨d1,d2,g1,g2,g3⟩:=swapD p1 p2 p3 hs e1
   obtain ⟨c4,k1,k2⟩:=runD_le g3 e2
   refine ⟨d1,c4,g1,?_,Cfg.le_trans k2 e3⟩
   simp only [List.cons_append,runD_cons,g2,Option.bind_some]
   exact k1
inductive Reach (ops:Array Oper) (j:Nat):Nat → Prop where
 | edge {i o e} (ho:ops[i]? = some o) (he:e ∈ o.after) (hb:Region.binds .any e = true) (h:e.on = j):Reach ops j i
 | step {i o e} (ho:ops[i]? = some o) (he:e ∈ o.after) (hb:Region.binds .any e = true) (h:Reach ops j e.on):Reach ops j i
theorem getI_append (l r:List Nat) (i:Nat):getI (l ++ r) i = if i < l.length then getI l i else getI r (i - l.length):=by
 induction l generalizing i with
 | nil=>simp
 | cons x l ih=>cases i with
  | zero=>simp [getI]
  | succ i=>simp only [List.cons_append,getI,ih,List.length_cons,Nat.add_lt_add_iff_right,Nat.add_sub_add_right]
theorem getI_out (l:List Nat) (i:Nat) (h:l.length ≤ i):getI l i = 0:=by
 induction l generalizing i with
 | nil=>rfl
 | cons x l ih=>cases i with
  | zero=>simp at h
  | succ i=>exact ih i (by simpa using h)
theorem maskE_bit {acc:List Nat} {j:Nat}:∀ {l:List Edge},(maskE acc l).testBit j = true → ∃ e ∈ l,Region.binds .any e = true ∧ (e.on = j ∨ (getI acc e.on).testBit j = true)
 | [],h=>by simp [maskE] at h
 | e :: l,h=>by
  simp only [maskE] at h
  by_cases hb:Region.binds .any e = true
  ·rw [if_pos hb] at h
   have h:((1 <<< e.on ||| getI acc e.on) ||| maskE acc l).testBit j = true:=h
   rw [Nat.testBit_or,Nat.testBit_or,Bool.or_eq_true,Bool.or_eq_true] at h
   rcases h with (h | h) | h
   ·refine ⟨e,by simp,hb,.inl ?_⟩
    rw [Nat.shiftLeft_eq,Nat.one_mul,Nat.testBit_two_pow] at h
    simpa using h
   ·exact ⟨e,by simp,hb,.inr h⟩
   ·obtain ⟨e',h1,h2⟩:=maskE_bit h
    exact ⟨e',by simp [h1],h2⟩
  ·rw [if_neg hb] at h
   obtain ⟨e',h1,h2⟩:=maskE_bit h
   exact ⟨e',by simp [h1],h2⟩
theorem masks_reach:∀ (l:List Oper) (acc:List Nat),(∀ i j,(getI acc i).testBit j = true → Reach ops j i) → (∀ k,l[k]? = ops[acc.length + k]?) → ∀ i j,(getI (masks l acc) i).testBit j = true → Reach ops j i
 | [],acc,h,_,i,j,hh=>h i j hh
 | o :: l,acc,h,hl,i,j,hh=>by
  refine masks_reach l (acc ++ [maskE acc o.after.toList]) ?_ ?_ i j hh
  ·intro i j hb
   rw [getI_append] at hb
   split at hb
   ·exact h i j hb
   ·have ho:ops[acc.length]? = some o:=by simpa using (hl 0).symm
    by_cases hi:i - acc.length = 0
    ·have hi':i = acc.length:=by omega
     subst hi'
     simp only [Nat.sub_self,getI] at hb
     obtain ⟨e,e1,e2,e3⟩:=maskE_bit hb
     rcases e3 with e3 | e3
     ·exact .edge ho (by simpa using e1) e2 e3
     ·exact .step ho (by simpa using e1) e2 (h _ _ e3)
    ·rw [getI_out _ _ (by simp;omega)] at hb
     simp at hb
  ·intro k
   have:=hl (k + 1)
   simp only [List.getElem?_cons_succ] at this
   rw [this]
   congr 1
   simp
   omega
theorem ordM_reach {j i:Nat} (h:ordM (masks ops.toList []) j i = true):Reach ops j i:=by
 unfold ordM at h
 rw [bit_eq] at h
 exact masks_reach ops.toList [] (fun i j hh=>by simp [getI] at hh) (fun k=>by simp) i j h
def Shut' (ops:Array Oper) (listed:Array Bool):Prop:=∀ j oj,ops[j]? = some oj → listed.getD j false = true → ∀ e ∈ oj.after,Region.binds .any e = true → listed.getD e.on false = true
theorem reach_listed {listed:Array Bool} (hs:Shut' ops listed) {j i:Nat} (h:Reach ops j i):(∀ o,ops[i]? = some o → ∀ e ∈ o.after,Region.binds .any e = true → listed.getD e.on false = true) → listed.getD j false = true:=by
 induction h with
 | edge ho he hb h=>intro hi;rw [← h];exact hi _ ho _ he hb
 | step ho he hb _ ih=>intro hi;exact ih fun o ho' e he' hb'=>hs _ _ ho' (hi _ ho _ he hb) e he' hb'
theorem numb_get:∀ (l:List Oper) (k:Nat) (x:Nat × Oper),x ∈ numb k l ↔ k ≤ x.1 ∧ l[x.1 - k]? = some x.2
 | [],k,x=>by simp [numb]
 | o :: l,k,x=>by
  simp only [numb,List.mem_cons,numb_get l (k + 1) x]
  constructor
  ·rintro (rfl | ⟨h1,h2⟩)
   ·simp
   ·refine ⟨by omega,?_⟩
    rw [show x.1 - k = (x.1 - (k + 1)) + 1 by omega]
    simpa using h2
  ·rintro ⟨h1,h2⟩
   by_cases hx:x.1 = k
   ·left
    rw [hx] at h2
    simp at h2
    exact Prod.ext hx h2.symm
   ·right
    refine ⟨by omega,?_⟩
    rw [show x.1 - k = (x.1 - (k + 1)) + 1 by omega] at h2
    simpa using h2
theorem numb_sorted:∀ (l:List Oper) (k:Nat),(numb k l).Pairwise (fun x y=>x.1 < y.1)
 | [],_=>.nil
 | o :: l,k=>by
  refine .cons (fun x hx=>?_) (numb_sorted l (k + 1))
  have:=(numb_get l (k + 1) x).1 hx
  simp only
  omega
theorem pairsOK_of:∀ {l:List (Nat × Oper)},pairsOK ops Mk l = true → l.Pairwise (fun x y=>pairOK ops Mk x y = true)
 | [],_=>.nil
 | x :: l,h=>by
  simp only [pairsOK,Bool.and_eq_true,List.all_eq_true] at h
  exact .cons h.1 (pairsOK_of h.2)
structure Left (ops:Array Oper) (Mk:List Nat) (listed:Array Bool) (R:List (Nat × Oper)):Prop where
 mem:∀ x,x ∈ R ↔ ops[x.1]? = some x.2 ∧ listed.getD x.1 true = false
 sort:R.Pairwise (fun x y=>x.1 < y.1)
 pair:R.Pairwise (fun x y=>pairOK ops Mk x y = true)
 edge:∀ x ∈ R,edgesOK x = true
 size:listed.size = ops.size
theorem pairwise_mid {α:Type} {r:α → α → Prop} {l1 l2:List α} {x:α} (h:(l1 ++ x :: l2).Pairwise r):(∀ y ∈ l1,r y x) ∧ (∀ y ∈ l2,r x y) ∧ (l1 ++ l2).Pairwise r:=by
 rw [List.pairwise_append] at h
 obtain ⟨h1,h2,h3⟩:=h
 rw [List.pairwise_cons] at h2
 refine ⟨fun y hy=>h3 y hy x (by simp),h2.1,?_⟩
 rw [List.pairwise_append]
 exact ⟨h1,h2.2,fun a ha b hb=>h3 a ha b (by simp [hb])⟩
theorem effD_op {o:Oper} {s:St} {t:Tm} {e:Eff} (h:effD P call ops s t o = some e) (hw:wantedV ops t o = true):∃ v s',opG P call s t o.op = some (v,s') ∧ match e with
  | .val u=>u = v ∧ s' = s
  | .ld _ _ _ u=>u = v ∧ s' = s
  | .big u q=>u = v ∧ s' = q:=by
 unfold effD at h
 rw [if_pos hw] at h
 have hplain:cls o.op = 0 ∨ cls o.op = 1 → opG P call s t o.op = opE P s t o.op:=by
  intro hc
  unfold opG
  split
  ·rename_i c ho
   unfold opK
   split
   ·rename_i f hf
    rw [ho] at hc
    simp [cls,hf] at hc
   ·rw [ho]
  ·rfl
 split at h
 ·rename_i hc
  split at h <;> simp at h
  rename_i v hv
  subst h
  refine ⟨v,s,?_,rfl,rfl⟩
  rw [hplain (.inl hc),opE,hv]
 ·rename_i hc
  unfold ldE at h
  split at h <;> try simp at h
  rename_i ty a ho
  split at h <;> try simp at h
  rename_i id off hev
  split at h <;> simp at h
  rename_i v hl
  subst h
  refine ⟨v,s,?_,rfl,rfl⟩
  rw [hplain (.inr hc),opE]
  simp only [ho,pureV,effV,oLoad,hev,hl]
 ·split at h <;> simp at h
  rename_i v s' hop
  subst h
  exact ⟨v,s',hop,rfl,rfl⟩
theorem applyD_state {i:Nat} {d:Option Tmp} {c c1:Cfg} {e:Eff} (h:applyD P Mk i d c e = some c1):∃ v s',c1.s = s' ∧ c1.t = putT c.t d v ∧ match e with
  | .val u=>u = v ∧ s' = c.s
  | .ld _ _ _ u=>u = v ∧ s' = c.s
  | .big u q=>u = v ∧ s' = q:=by
 cases e with
 | val u=>simp only [applyD,putK_eq,Option.some.injEq] at h;subst h;exact ⟨u,_,rfl,rfl,rfl,rfl⟩
 | ld ty id off u =>
  simp only [applyD,putK_eq] at h
  split at h <;> simp at h
  subst h
  exact ⟨u,_,rfl,rfl,rfl,rfl⟩
 | big u q =>
  simp only [applyD,putK_eq] at h
  split at h <;> simp at h
  subst h
  exact ⟨u,_,rfl,rfl,rfl,rfl⟩
theorem effD_off {o:Oper} {s:St} {t:Tm} (hw:¬ wantedV ops t o = true):effD P call ops s t o = some (.val und):=by
 unfold effD
 rw [if_neg hw]
theorem stepD_sound (hc:CallOK P call) {c c1:Cfg} {i:Nat} {o:Oper} (ho:ops[i]? = some o) (h:stepD P call ops Mk c (i,o) = some c1) {m:M} {w:World} {a:Act} (hi:In w0 m c.s w) (ht:TR m c.t a) (hd:a.defers = [])
  {K:Act → World → Prop} {Q:Exit → Act → World → Prop} (hk:∀ m' a' w',m.le m' → In w0 m' c1.s w' → TR m' c1.t a' → a'.defers = [] → K a' w'):wpOp P ops Q i K a w:=by
 rw [stepD_eq] at h
 cases he:effD P call ops c.s c.t o with
 | none=>rw [he] at h;cases h
 | some e =>
 rw [he] at h
 simp only [Option.bind_some] at h
 obtain ⟨v,s',h1,h2,h3⟩:=applyD_state h
 unfold wpOp
 simp only [ho]
 rw [wanted_eq ht]
 by_cases hw:wantedV ops c.t o = true
 ·rw [if_pos hw]
  obtain ⟨v',s'',g1,g2⟩:=effD_op he hw
  have hv:v = v' ∧ s' = s'':=by
   cases e <;> simp only at h3 g2 <;> exact ⟨h3.1.symm.trans g2.1,h3.2.trans g2.2.symm⟩
  obtain ⟨rfl,rfl⟩:=hv
  refine .inl (opG_sound hc hi ht g1 fun m' rv w' k1 k2 k3=>?_)
  refine hk m' _ w' k1 (by rw [h1];exact k2) (by rw [h2];exact TR.put (ht.mono k1) k3 o.dst) (by rw [put_defers];exact hd)
 ·rw [if_neg hw]
  rw [effD_off hw] at he
  cases he
  obtain ⟨rfl,rfl⟩:=h3
  exact hk m _ w m.le_refl (by rw [h1];exact hi) (by rw [h2];exact ht.put .und o.dst) (by rw [put_defers];exact hd)
end
section
variable {P:Program} {m:M} {w0 w:World} {call:Call'} {ops:Array Oper} {Mk:List Nat}
theorem listed_set {listed:Array Bool} {i k:Nat} (hi:i < listed.size) (d:Bool):(listed.setIfInBounds i true).getD k d = if k = i then true else listed.getD k d:=by
 by_cases h:k = i
 ·subst h;simp [hi]
 ·rw [if_neg h,getD_set_ne d (Ne.symm h)]
theorem Left.take {listed:Array Bool} {l1 l2:List (Nat × Oper)} {y:Nat × Oper} (h:Left ops Mk listed (l1 ++ y :: l2)):Left ops Mk (listed.setIfInBounds y.1 true) (l1 ++ l2):=by
 obtain ⟨s1,s2,s3⟩:=pairwise_mid h.sort
 have hy:ops[y.1]? = some y.2:=((h.mem y).1 (by simp)).1
 have hys:y.1 < listed.size:=by rw [h.size];exact (Array.getElem?_eq_some_iff.1 hy).1
 refine ⟨fun x=>?_,s3,(pairwise_mid h.pair).2.2,fun x hx=>h.edge x (by simp at hx ⊢;rcases hx with hx | hx;exact .inl hx;exact .inr (.inr hx)),by simp [h.size]⟩
 rw [listed_set hys]
 constructor
 ·intro hx
  have hm:=(h.mem x).1 (by simp at hx ⊢;rcases hx with hx | hx;exact .inl hx;exact .inr (.inr hx))
  have hne:x.1 ≠ y.1:=by
   rcases List.mem_append.1 hx with hx | hx
   ·exact Nat.ne_of_lt (s1 x hx)
   ·exact Nat.ne_of_gt (s2 x hx)
  rw [if_neg hne]
  exact hm
 ·rintro ⟨h1,h2⟩
  by_cases hne:x.1 = y.1
  ·rw [if_pos hne] at h2;cases h2
  ·rw [if_neg hne] at h2
   have:=(h.mem x).2 ⟨h1,h2⟩
   simp at this ⊢
   rcases this with h | h | h
   ·exact .inl h
   ·exact absurd (congrArg Prod.fst h) hne
   ·exact .inr h
theorem Shut'.take {listed:Array Bool} (hs:Shut' ops listed) {i:Nat} (hi:i ∈ Region.ready .any ops listed) (hl:listed.size = ops.size):Shut' ops (listed.setIfInBounds i true):=by
 obtain ⟨h1,o,ho,hall⟩:=mem_ready.1 hi
 have his:i < listed.size:=by rw [hl];exact (Array.getElem?_eq_some_iff.1 ho).1
 intro j oj hoj hj e he hb
 rw [listed_set his] at hj ⊢
 split
 ·rfl
 ·by_cases hji:j = i
  ·subst hji
   rw [ho] at hoj
   cases hoj
   exact hall e he hb
  ·rw [if_neg hji] at hj
   exact hs j oj hoj hj e he hb
theorem Left.head_ready {listed:Array Bool} {y:Nat × Oper} {l:List (Nat × Oper)} (h:Left ops Mk listed (y :: l)):y.1 ∈ Region.ready .any ops listed:=by
 obtain ⟨h1,h2⟩:=(h.mem y).1 (by simp)
 refine mem_ready.2 ⟨h2,y.2,h1,fun e he hb=>?_⟩
 have he':=h.edge y (by simp)
 simp only [edgesOK,List.all_eq_true] at he'
 have:=he' e (by simpa using he)
 rw [hb] at this
 have hlt:e.on < y.1:=by simpa using this
 cases hl:listed.getD e.on false with
 | true=>rfl
 | false =>
  have hes:e.on < ops.size:=Nat.lt_trans hlt (Array.getElem?_eq_some_iff.1 h1).1
  have hes':e.on < listed.size:=by rw [h.size];exact hes
  have hlt':listed.getD e.on true = false:=by simp [hes'] at hl ⊢;exact hl
  have hm:=(h.mem (e.on,ops[e.on])).2 ⟨by simp [hes],hlt'⟩
  rcases List.mem_cons.1 hm with hm | hm
  ·have:=congrArg Prod.fst hm;simp at this;omega
  ·have:=(List.pairwise_cons.1 h.sort).1 _ hm
   simp at this
   omega
theorem reach_lt (hE:∀ x ∈ numb 0 ops.toList,edgesOK x = true) {j i:Nat} (h:Reach ops j i):j < i:=by
 have key:∀ {i o e},ops[i]? = some o → e ∈ o.after → Region.binds .any e = true → e.on < i:=fun {i o e} ho he hb=>by
  have:=hE (i,o) ((numb_get _ _ _).2 ⟨Nat.zero_le _,by simpa using ho⟩)
  simp only [edgesOK,List.all_eq_true] at this
  have:=this e (by simpa using he)
  rw [hb] at this
  simpa using this
 induction h with
 | edge ho he hb h=>rw [← h];exact key ho he hb
 | step ho he hb _ ih=>exact Nat.lt_trans ih (key ho he hb)
theorem any_sound (hc:CallOK P call) (hE:∀ x ∈ numb 0 ops.toList,edgesOK x = true) (hM:Mk = masks ops.toList []) {Q:Exit → Act → World → Prop}:∀ (n:Nat) {listed:Array Bool} {R:List (Nat × Oper)} {c c':Cfg} {m:M} {w:World} {a:Act},R.length = n → Left ops Mk listed R → Shut' ops listed →
  runD P call ops Mk R c = some c' → In w0 m c.s w → TR m c.t a → a.defers = [] → (∀ m' a' w',m.le m' → In w0 m' c'.s w' → TR m' c'.t a' → a'.defers = [] → Q .normal a' w') → wpAny P .any ops Q n listed a w
 | 0,listed,R,c,c',m,w,a,hn,hL,hS,h,hi,ht,hd,hQ=>by
  have:R = []:=List.length_eq_zero_iff.1 hn
  subst this
  rw [runD_nil] at h
  cases h
  refine ⟨?_,hQ m a w m.le_refl hi ht hd⟩
  cases hr:Region.ready .any ops listed with
  | nil=>rfl
  | cons i r =>
   have hm:i ∈ Region.ready .any ops listed:=by rw [hr];simp
   obtain ⟨h1,o,ho,_⟩:=mem_ready.1 hm
   have:=(hL.mem (i,o)).2 ⟨ho,h1⟩
   cases this
 | n + 1,listed,R,c,c',m,w,a,hn,hL,hS,h,hi,ht,hd,hQ=>by
  refine ⟨fun hr=>?_,fun i hir=>?_⟩
  ·cases R with
   | nil=>simp at hn
   | cons y l=>have:=hL.head_ready;rw [hr] at this;cases this
  ·obtain ⟨h1,o,ho,hall⟩:=mem_ready.1 hir
   have hm:=(hL.mem (i,o)).2 ⟨ho,h1⟩
   obtain ⟨l1,l2,hR⟩:=List.append_of_mem hm
   subst hR
   obtain ⟨s1,s2,s3⟩:=pairwise_mid hL.sort
   obtain ⟨p1,p2,p3⟩:=pairwise_mid hL.pair
   have un:∀ x ∈ l1,pairOK ops Mk x (i,o) = true ∧ ordM Mk x.1 i = false ∧ ordM Mk i x.1 = false:=by
    intro x hx
    refine ⟨p1 x hx,?_,?_⟩
    ·cases hq:ordM Mk x.1 i with
     | false=>rfl
     | true =>
      rw [hM] at hq
      have hl:=reach_listed hS (ordM_reach hq) fun o' ho' e he hb=>by rw [ho] at ho';cases ho';exact hall e he hb
      have hxm:=(hL.mem x).1 (by simp [hx])
      have hxs:x.1 < listed.size:=by rw [hL.size];exact (Array.getElem?_eq_some_iff.1 hxm.1).1
      have:=hxm.2
      simp [hxs] at this hl
      rw [this] at hl
      cases hl
    ·cases hq:ordM Mk i x.1 with
     | false=>rfl
     | true =>
      rw [hM] at hq
      have h1:=reach_lt hE (ordM_reach hq)
      have h2:=s1 x hx
      simp only at h2
      omega
   obtain ⟨c1,c2,e1,e2,e3⟩:=frontD un h
   refine stepD_sound hc ho e1 hi ht hd fun m' a' w' k1 k2 k3 k4=>?_
   refine any_sound hc hE hM n (R:=l1 ++ l2) (by simp at hn ⊢;omega) hL.take (hS.take hir hL.size) e2 k2 k3 k4 fun m'' a'' w'' q1 q2 q3 q4=>?_
   exact hQ m'' a'' w'' (M.le_trans k1 q1) (by rw [← e3.s];exact q2) (by rw [← e3.t];exact q3) q4
theorem drawG_sound (hc:CallOK P call) (hf:P.follows .mixedOrders = true) {id:Nat} {s s':St} {t t':Tm} (h:drawG P call ops s t = some (s',t')) {a:Act} {w:World} {Q:Exit → Act → World → Prop} (hi:In w0 m s w) (ht:TR m t a) (hd:a.defers = [])
  (hQ:∀ m' a' w',m.le m' → In w0 m' s' w' → TR m' t' a' → a'.defers = [] → Q .normal a' w'):(Code.region id ops true).wp P Q a w:=by
 unfold drawG at h
 split at h <;> try simp at h
 rename_i hh
 rw [Bool.and_eq_true,List.all_eq_true] at hh
 obtain ⟨hp,hE⟩:=hh
 cases hr:runD P call ops (masks ops.toList []) (numb 0 ops.toList) ⟨[],[],s,t⟩ with
 | none=>rw [hr] at h;simp [endD] at h
 | some c' =>
  rw [hr] at h
  simp only [endD,Option.some.injEq,Prod.mk.injEq] at h
  obtain ⟨rfl,rfl⟩:=h
  refine wp_region_any hf ?_
  have hlen:∀ (l:List Oper) k,(numb k l).length = l.length:=by
   intro l
   induction l with
   | nil=>intro k;rfl
   | cons o l ih=>intro k;simp [numb,ih]
  refine any_sound (P:=P) hc hE rfl ops.size (R:=numb 0 ops.toList) (by rw [hlen];simp) ?_ ?_ hr hi.drew ht hd hQ
  ·refine ⟨fun x=>?_,numb_sorted _ _,pairsOK_of hp,hE,by simp⟩
   rw [numb_get]
   simp only [Nat.zero_le,true_and,Nat.sub_zero,Array.getElem?_toList]
   constructor
   ·intro hx
    refine ⟨hx,?_⟩
    have:=(Array.getElem?_eq_some_iff.1 hx).1
    simp [this]
   ·exact fun hx=>hx.1
  ·intro j oj hoj hj
   have:=(Array.getElem?_eq_some_iff.1 hoj).1
   simp [this] at hj
end
section
variable {P:Program} {m:M} {w0 w:World} {call:Call'}
def exOf:X → Exit
 | .nrm=>.normal
 | .ext id=>.exit id
 | .ret=>.ret
theorem thenG_some {r:CR} {k:St → Tm → CR} {x:X} {q:St × Tm} (h:thenG r k = some (x,q)):(∃ s t,r = some (.nrm,s,t) ∧ k s t = some (x,q)) ∨ (x ≠ .nrm ∧ r = some (x,q)):=by
 cases r with
 | none=>cases h
 | some p =>
  obtain ⟨y,s,t⟩:=p
  cases y with
  | nrm=>exact .inl ⟨s,t,rfl,h⟩
  | ext id=>right;injection h with h;injection h with h1 h2;subst h1 h2;exact ⟨by simp,rfl⟩
  | ret=>right;injection h with h;injection h with h1 h2;subst h1 h2;exact ⟨by simp,rfl⟩
theorem then_q {Q:Exit → Act → World → Prop} {K:Act → World → Prop} {x:X} (hx:x ≠ .nrm) {a:Act} {w:World} (h:Q (exOf x) a w):Exit.then K Q (exOf x) a w:=by
 cases x with
 | nrm=>exact absurd rfl hx
 | ext id=>exact h
 | ret=>exact h
noncomputable def least (p:Nat → Prop):Nat:=Classical.epsilon fun n=>p n ∧ ∀ k,k < n → ¬ p k
theorem least_spec {p:Nat → Prop} (h:∃ n,p n):p (least p) ∧ ∀ k,k < least p → ¬ p k:=by
 refine Classical.epsilon_spec (p:=fun n=>p n ∧ ∀ k,k < n → ¬ p k) ?_
 obtain ⟨n,hn⟩:=h
 induction n using Nat.strongRecOn with
 | _ n ih =>
  by_cases hk:∃ k,k < n ∧ p k
  ·obtain ⟨k,h1,h2⟩:=hk;exact ih k h1 h2
  ·exact ⟨n,hn,fun k h1 h2=>hk ⟨k,h1,h2⟩⟩
structure At (w0:World) (m:M) (s:St) (t:Tm) (a:Act) (w:World):Prop where
 hi:In w0 m s w
 ht:TR m t a
 hd:a.defers = []
theorem code_sound (hc:CallOK P call) (hf:P.follows .mixedOrders = true):∀ (c:Code) {s s':St} {t t':Tm} {x:X} {m:M} {w:World} {a:Act} {Q:Exit → Act → World → Prop},codeG P call c s t = some (x,s',t') → At w0 m s t a w →
  (∀ m' a' w',m.le m' → At w0 m' s' t' a' w' → Q (exOf x) a' w') → c.wp P Q a w
 | .skip,s,s',t,t',x,m,w,a,Q,h,hA,hQ=>by
  injection h with h;injection h with h1 h;injection h with h2 h3;subst h1 h2 h3
  exact wp_skip (hQ m a w m.le_refl hA)
 | .label l,s,s',t,t',x,m,w,a,Q,h,hA,hQ=>by
  injection h with h;injection h with h1 h;injection h with h2 h3;subst h1 h2 h3
  exact wp_label (hQ m a w m.le_refl hA)
 | .exit id,s,s',t,t',x,m,w,a,Q,h,hA,hQ=>by
  injection h with h;injection h with h1 h;injection h with h2 h3;subst h1 h2 h3
  exact wp_exit (hQ m a w m.le_refl hA)
 | .ret,s,s',t,t',x,m,w,a,Q,h,hA,hQ=>by
  injection h with h;injection h with h1 h;injection h with h2 h3;subst h1 h2 h3
  exact wp_ret (hQ m a w m.le_refl hA)
 | .region id ops false,s,s',t,t',x,m,w,a,Q,h,hA,hQ=>by
  have h:regG (opsG P call ops ops.toList s t) = some (x,s',t'):=h
  cases hr:opsG P call ops ops.toList s t with
  | none=>rw [hr] at h;cases h
  | some q =>
   rw [hr] at h
   simp only [regG,Option.some.injEq,Prod.mk.injEq] at h
   obtain ⟨rfl,rfl⟩:=h
   exact wp_region_list (opsG_sound hc ops.toList hr hA.hi hA.ht hA.hd fun m' a' w' k1 k2 k3 k4=>hQ m' a' w' k1 ⟨k2,k3,k4⟩)
 | .region id ops true,s,s',t,t',x,m,w,a,Q,h,hA,hQ=>by
  have h:regG (drawG P call ops s t) = some (x,s',t'):=h
  cases hr:drawG P call ops s t with
  | none=>rw [hr] at h;cases h
  | some q =>
   rw [hr] at h
   simp only [regG,Option.some.injEq,Prod.mk.injEq] at h
   obtain ⟨rfl,rfl⟩:=h
   exact drawG_sound hc hf hr hA.hi hA.ht hA.hd fun m' a' w' k1 k2 k3 k4=>hQ m' a' w' k1 ⟨k2,k3,k4⟩
 | .seq p q,s,s',t,t',x,m,w,a,Q,h,hA,hQ=>by
  have h:thenG (codeG P call p s t) (codeG P call q) = some (x,s',t'):=h
  refine wp_seq ?_
  rcases thenG_some h with ⟨s1,t1,h1,h2⟩ | ⟨hx,h1⟩
  ·exact code_sound hc hf p h1 hA fun m' a' w' k1 k2=>code_sound hc hf q h2 k2 fun m'' a'' w'' q1 q2=>hQ m'' a'' w'' (M.le_trans k1 q1) q2
  ·exact code_sound hc hf p h1 hA fun m' a' w' k1 k2=>then_q hx (hQ m' a' w' k1 k2)
 | .cond y p q,s,s',t,t',x,m,w,a,Q,h,hA,hQ=>by
  have h:condG (ev t y) (codeG P call p s t) (codeG P call q s t) = some (x,s',t'):=h
  unfold condG at h
  split at h
  ·rename_i hy
   have:=ev_sound hA.ht hy
   refine wp_cond_true (by generalize a.eval y = z at this;cases this;rfl) (code_sound hc hf p h hA hQ)
  ·rename_i hy
   have:=ev_sound hA.ht hy
   refine wp_cond_false (by generalize a.eval y = z at this;cases this;rfl) (code_sound hc hf q h hA hQ)
  ·cases h
 | .block id p,s,s',t,t',x,m,w,a,Q,h,hA,hQ=>by
  have h2:inBlockG id (codeG P call p s t) = some (x,s',t'):=h
  clear h
  refine wp_block ?_
  unfold inBlockG at h2
  split at h2
  ·rename_i id' q hq
   obtain ⟨s1,t1⟩:=q
   split at h2
   ·rename_i hid
    have hid:id' = id:=by simpa using hid
    subst hid
    simp only [Option.some.injEq,Prod.mk.injEq] at h2
    obtain ⟨rfl,rfl,rfl⟩:=h2
    exact code_sound hc hf p hq hA fun m' a' w' k1 k2=>by
     show (if id' = id' then Q .normal a' w' else Q (.exit id') a' w')
     rw [if_pos rfl]
     exact hQ m' a' w' k1 k2
   ·rename_i hid
    have hid:¬ id' = id:=by simpa using hid
    simp only [Option.some.injEq,Prod.mk.injEq] at h2
    obtain ⟨rfl,rfl,rfl⟩:=h2
    exact code_sound hc hf p hq hA fun m' a' w' k1 k2=>by
     show (if id' = id then Q .normal a' w' else Q (.exit id') a' w')
     rw [if_neg hid]
     exact hQ m' a' w' k1 k2
  ·rename_i hne
   refine code_sound hc hf p h2 hA fun m' a' w' k1 k2=>?_
   cases x with
   | nrm=>exact hQ m' a' w' k1 k2
   | ext id'=>exact absurd h2 (hne id' _)
   | ret=>exact hQ m' a' w' k1 k2
 | .loop p,s,s',t,t',x,m,w,a,Q,h,hA,hQ=>by
  have h:loopG (codeG P call p) 10000 s t = some (x,s',t'):=h
  let J:Act → World → Nat → Prop:=fun a w n=>∃ m' s1 t1,m.le m' ∧ At w0 m' s1 t1 a w ∧ loopG (codeG P call p) n s1 t1 = some (x,s',t')
  refine wp_loop (fun a w=>∃ n,J a w n) (fun a w=>least (J a w)) ⟨10000,m,s,t,m.le_refl,hA,h⟩ fun a w hJ=>?_
  obtain ⟨⟨m',s1,t1,h1,h2,h3⟩,hmin⟩:=least_spec hJ
  generalize hn:least (J a w) = n at h3 hmin ⊢
  cases n with
  | zero=>cases h3
  | succ n =>
   have h3:thenG (codeG P call p s1 t1) (loopG (codeG P call p) n) = some (x,s',t'):=h3
   rcases thenG_some h3 with ⟨s2,t2,g1,g2⟩ | ⟨hx,g1⟩
   ·refine code_sound hc hf p g1 h2 fun m'' a' w' k1 k2=>?_
    have hJn:J a' w' n:=⟨m'',s2,t2,M.le_trans h1 k1,k2,g2⟩
    refine ⟨⟨n,hJn⟩,?_⟩
    obtain ⟨_,hm⟩:=least_spec (p:=J a' w') ⟨n,hJn⟩
    rcases Nat.lt_or_ge n (least (J a' w')) with h | h
    ·exact absurd hJn (hm n h)
    ·omega
   ·exact code_sound hc hf p g1 h2 fun m'' a' w' k1 k2=>then_q hx (hQ m'' a' w' (M.le_trans h1 k1) k2)
 | .rangeFunc ..,_,_,_,_,_,_,_,_,_,h,_,_=>by cases h
 | .scope _,_,_,_,_,_,_,_,_,_,h,_,_=>by cases h
 | .goto _,_,_,_,_,_,_,_,_,_,h,_,_=>by cases h
 | .refuse _,_,_,_,_,_,_,_,_,_,h,_,_=>by cases h
theorem padT_rel {l:List V} {r:List Value} (h:RVs m l r) (n:Nat):RVs m (padT l n) (r ++ List.replicate (n - r.length) undef):=by
 induction l generalizing r n with
 | nil =>
  cases h
  simp only [List.nil_append,List.length_nil,Nat.sub_zero]
  induction n with
  | zero=>exact .nil
  | succ n ih=>exact .cons .und ih
 | cons x l ih=>cases h with
  | cons hx hs =>
   have:=ih hs (n - 1)
   simp only [padT,List.cons_append,List.length_cons,Nat.sub_add_eq,Nat.sub_right_comm n _ 1]
   exact .cons hx this
def resV (a:Act):ResultVar → Sem Value
 | .tmp t=>pure (a.tmps.getD t undef)
 | .cell x ty=>do loadVar ty (← asAddr (a.tmps.getD x undef))
theorem resF_sound {s:St} {t:Tm} {a:Act} (hi:In w0 m s w) (ht:TR m t a):∀ {l:List ResultVar} {vs:List V},resF P s t l = some vs → ∃ rs,RVs m vs rs ∧ (l.mapM (resV a)).run P w = .ok rs w
 | [],vs,h=>by simp [resF] at h;subst h;exact ⟨[],.nil,rfl⟩
 | .tmp i :: l,vs,h=>by
  simp only [resF] at h
  split at h <;> simp at h
  rename_i vs' hvs
  subst h
  obtain ⟨rs,h1,h2⟩:=resF_sound hi ht hvs
  have hn:=ht.nth (m:=m) i
  refine ⟨_,.cons hn h1,?_⟩
  have e:a.tmps.toList.getD i undef = a.tmps.getD i undef:=by simp [List.getD]
  rw [List.mapM_cons,Sem.run_bind]
  simp only [resV]
  rw [Sem.run_pure,Result.andThen_ok,Sem.run_bind,h2,e]
  rfl
 | .cell x ty :: l,vs,h=>by
  simp only [resF] at h
  split at h <;> try simp at h
  rename_i id off vs' hx hvs
  split at h <;> simp at h
  rename_i v hl
  subst h
  obtain ⟨rs,h1,h2⟩:=resF_sound hi ht hvs
  have hn:=ht.nth (m:=m) x
  rw [hx] at hn
  have e:a.tmps.getD x undef = a.tmps.toList.getD x undef:=by simp [List.getD]
  rw [← e] at hn
  obtain ⟨rv,k1,k2⟩:=load_val (P:=P) hi hl hn
  refine ⟨_,.cons k1 h1,?_⟩
  have k3:(do loadVar ty (← asAddr (a.tmps.getD x undef)):Sem Value).run P w = .ok rv w:=by
   generalize a.tmps.getD x undef = p at hn k2
   cases hn
   simpa [Instr.loadAt,Instr.sureAddr,asAddr] using k2
  rw [List.mapM_cons,Sem.run_bind]
  have k4:(resV a (.cell x ty)).run P w = .ok rv w:=k3
  rw [k4,Result.andThen_ok,Sem.run_bind,h2]
  rfl
theorem results_sound {fn:Func} {s s':St} {t:Tm} {a:Act} {v:V} (hi:In w0 m s w) (ht:TR m t a) (h:packR s (resF P s t fn.results.toList) = some (v,s')):s' = s ∧ ∃ rv,RV m v rv ∧ (results fn a.tmps).run P w = .ok rv w:=by
 cases hr:resF P s t fn.results.toList with
 | none=>rw [hr] at h;cases h
 | some vs =>
  rw [hr] at h
  obtain ⟨rs,h1,h2⟩:=resF_sound hi ht hr
  have hrun:(results fn a.tmps).run P w = .ok (if h:rs.toArray.size = 1 then rs.toArray[0] else .tuple rs.toArray) w:=by
   have e1:results fn a.tmps = (do
     let vs ← fn.results.toList.toArray.mapM (resV a)
     pure (if h:vs.size = 1 then vs[0] else .tuple vs)):=by
    unfold results
    rw [Array.toArray_toList]
    congr 1
   rw [e1,List.mapM_toArray]
   simp only [Sem.run_bind,Sem.run_map,h2,Result.andThen_ok,Sem.run_pure]
  have hl:=h1.len
  unfold packR at h
  split at h <;> simp at h
  ·rename_i u heq
   injection heq with heq
   subst heq
   obtain ⟨rfl,rfl⟩:=h
   cases h1 with
   | cons hx hs =>
    cases hs
    exact ⟨rfl,_,hx,by rw [hrun];rfl⟩
  ·rename_i l hne heq
   injection heq with heq
   subst heq
   obtain ⟨rfl,rfl⟩:=h
   refine ⟨rfl,.tuple rs.toArray,.t (by simpa using h1),?_⟩
   rw [hrun,dif_neg]
   intro h1'
   have:vs.length = 1:=by rw [hl];simpa using h1'
   obtain ⟨u,hu⟩:=List.length_eq_one_iff.1 this
   exact hne u (by rw [hu])
def ExtOK (P:Program) (E:Nat → List V → Option V):Prop :=
 ∀ {f:Nat} {l:List V} {v:V} {m:M} {args:Array Value},E f l = some v → RVs m l args.toList →
  (∃ fn,P.funcs[f]? = some fn ∧ fn.body.isSome = true ∧ ∀ w,Calls P f args w fun e w'=>∃ rv,e = .returned rv ∧ RV m v rv ∧ Below w.heap.size w w') ∨
  (∃ rv,RV m v rv ∧ ∀ w,(callFunc f args).run P w = .ok (.value rv) w)
theorem In.stays {w0 w w':World} {s:St} (h:In w0 m s w) (hb:Below w.heap.size w w'):In w0 m s w':=by
 refine ⟨fun {id o} ho=>?_,h.inj,h.fresh,h.below.trans (hb.mono h.below.size)⟩
 obtain ⟨r,sh,z,ob,h1,h2,h3,h4⟩:=h.obj ho
 exact ⟨r,sh,z,ob,h1,h2,by rw [hb.block r (Array.getElem?_eq_some_iff.1 h3).1];exact h3,h4⟩
theorem call_step {E:Nat → List V → Option V} (hE:ExtOK P E) (hf:P.follows .mixedOrders = true) (hn:P.funcs.all (fun fn=>!(fn.name == "runtime.NumGoroutine")) = true) {d:Nat} (hc:CallOK P (callG P E d))
  {w0:World} {m:M} {s:St} {w:World} {f:Nat} {l:List V} {v:V} {s':St} {args:Array Value} (h:callG P E (d + 1) s f l = some (v,s')) (hi:In w0 m s w) (hl:RVs m l args.toList) :
  (∃ fn,P.funcs[f]? = some fn ∧ (fn.name == "runtime.NumGoroutine") = false ∧ fn.body.isSome = true ∧ Calls P f args w fun e w'=>∃ m' rv,e = .returned rv ∧ m.le m' ∧ In w0 m' s' w' ∧ RV m' v rv) ∨
  (∃ rv,RV m v rv ∧ s' = s ∧ (callFunc f args).run P w = .ok (.value rv) w):=by
 have h:bodyG P E (callG P E d) s f l = some (v,s'):=h
 have name_ok:∀ {fn},P.funcs[f]? = some fn → (fn.name == "runtime.NumGoroutine") = false:=fun {fn} hfn=>by
  have:=Array.all_eq_true_iff_forall_mem.1 hn fn (Array.mem_of_getElem? hfn)
  simpa using this
 unfold bodyG at h
 split at h
 ·rename_i u hu
  simp at h
  obtain ⟨rfl,rfl⟩:=h
  rcases hE hu hl with ⟨fn,h1,h2,h3⟩ | ⟨rv,h1,h2⟩
  ·refine .inl ⟨fn,h1,name_ok h1,h2,(h3 w).mono fun e w' he=>?_⟩
   obtain ⟨rv,rfl,h4,h5⟩:=he
   exact ⟨m,rv,rfl,m.le_refl,hi.stays h5,h4⟩
  ·exact .inr ⟨rv,h1,rfl,h2 w⟩
 ·split at h <;> try simp at h
  rename_i fn hfn
  split at h
  ·simp at h
  rename_i c hb
  left
  refine ⟨fn,hfn,name_ok hfn,by rw [hb];rfl,?_⟩
  cases hr:codeG P (callG P E d) c s (padT l fn.ntmps) with
  | none=>rw [hr] at h;cases h
  | some q =>
   obtain ⟨x,s1,t1⟩:=q
   rw [hr] at h
   refine calls_of_wp hfn hb (code_sound hc hf c hr (w0:=w0) (m:=m) ⟨hi,?_,rfl⟩ fun m' a' w' k1 k2=>?_)
   ·have:=padT_rel hl fn.ntmps
    show RVs m _ (args ++ Array.replicate (fn.ntmps - args.size) undef).toList
    simpa using this
   ·cases x with
    | ext id=>cases h
    | nrm =>
     obtain ⟨rfl,rv,g1,g2⟩:=results_sound k2.hi k2.ht h
     exact ⟨k2.hd,rv,g2,m',rv,rfl,k1,k2.hi,g1⟩
    | ret =>
     obtain ⟨rfl,rv,g1,g2⟩:=results_sound k2.hi k2.ht h
     exact ⟨k2.hd,rv,g2,m',rv,rfl,k1,k2.hi,g1⟩
theorem call_sound {E:Nat → List V → Option V} (hE:ExtOK P E) (hf:P.follows .mixedOrders = true) (hn:P.funcs.all (fun fn=>!(fn.name == "runtime.NumGoroutine")) = true):∀ d:Nat,CallOK P (callG P E d)
 | 0=>fun h=>by cases h
 | d + 1=>fun h hi hl=>call_step hE hf hn (call_sound hE hf hn d) h hi hl
theorem In.start (w:World):In w (fun _=>none) ⟨.e,0⟩ w:=by
 have:∀ id,H.obj .e id = none:=fun id=>by
  unfold H.obj
  split
  ·rw [T.get_e]
  ·rfl
 exact ⟨fun {id o} h=>(by rw [this] at h;cases h),fun {id id' o o' r sh z r' sh' z'} h=>(by rw [this] at h;cases h),fun _=>rfl,Below.refl _ _⟩
def boolG (r:Option (V × St)):Option Bool:=match r with
 | some (.b x,_)=>some x
 | _=>none
theorem boolG_some {r:Option (V × St)} {b:Bool} (h:boolG r = some b):∃ s,r = some (.b b,s):=by
 unfold boolG at h
 split at h <;> simp at h
 subst h
 exact ⟨_,rfl⟩
theorem noExt {P:Program}:ExtOK P (fun _ _=>none):=fun h=>by cases h
theorem closed_call {E:Nat → List V → Option V} (hE:ExtOK P E) (hf:P.follows .mixedOrders = true) (hn:P.funcs.all (fun fn=>!(fn.name == "runtime.NumGoroutine")) = true) {d f:Nat} {b:Bool}
  (h0:boolG (callG P E d ⟨.e,0⟩ f []) = some b) {fn:Func} (hfn:P.funcs[f]? = some fn) (hb:fn.body.isSome = true) (w:World):Calls P f #[] w fun e w'=>e = .returned (.bool b) ∧ Below w.heap.size w w':=by
 obtain ⟨s',h⟩:=boolG_some h0
 rcases call_sound hE hf hn d h (In.start w) (args:=#[]) .nil with ⟨fn',h1,h2,h3,hc⟩ | ⟨rv,_,_,hx⟩
 ·refine hc.mono fun e w' he=>?_
  obtain ⟨m',rv,rfl,_,h2,h3⟩:=he
  cases h3
  exact ⟨rfl,h2.below⟩
 ·have hname:(fn.name == "runtime.NumGoroutine") = false:=by
   have:=Array.all_eq_true_iff_forall_mem.1 hn fn (Array.mem_of_getElem? hfn)
   simpa using this
  rw [run_enter hfn hname hb] at hx
  cases hx
end
end Go.Proofs.Ythpahlkhiknofaa.Va
