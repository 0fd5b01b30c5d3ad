/- Part 1 of the texts that a walk of this program rests on: an abstract machine, its soundness, contracts of functions. No statement of the seat is proved in this file. -/
import Derived.WalkKit
import Derived.WalkSpells
import Derived.WalkLawsBesides
import Derived.IntWalk
import Derived.ChangeKeysEq
import Derived.Laws.BytesString
import Derived.Laws.MakeOwn
namespace Go.X
inductive C where
  | tt | ff
  | b (x : Bool)
  | i (k : IntKind) (n : Int)
  | s (x : ByteArray)
  | nilp
  | p (f x o : Nat)
  | pe (f x z e j : Nat)
  | nils
  | sl (f x z o n c : Nat)
  | nilm
  | mp (f x : Nat)
  | nilf
  | fn (F : Nat) (caps : List (Nat × Nat × Nat))
  | bf (F : Nat) (fs : List (List (IntKind × Int)))
inductive E where
  | c (v : C)
  | a (l : List C)
inductive T where
  | c (v : C)
  | a (l : List C)
  | t (l : List E)
inductive Key where
  | i (n : Int)
  | s (b : ByteArray)
deriving DecidableEq
inductive Ck where
  | no
  | cells (w : Bool) (l : List C)
  | row (w k : Bool) (e z n c : Nat) (f : Nat → List C)
  | map (w k : Bool) (ck n : Nat) (f : Nat → Nat × Key × E)
  | iter (m x ck : Nat) (seen : List Nat)
inductive Fam where
  | one (c : Ck)
  | many (g : Nat → Ck)
structure S where
  t : List (Nat × T)
  h : List Fam
inductive Sh where
  | int (k : IntKind) | bool | str | ptr | slice (e : Nat) | map (k e : Nat) | struct (fl : List (Nat × Nat × Nat)) | array (n e : Nat) | func | other
structure Td where
  size : Nat
  bytes : Nat
  sh : Sh
  zero : List C
  zok : Bool
  eqs : List Sh := []
abbrev Tb := List (Nat × Td)
def ofVal (v : Value) : Option C :=
  match v with
  | .bool true => some .tt
  | .bool false => some .ff
  | .int k n => some (.i k n)
  | .string s => some (.s s)
  | .pointer none => some .nilp
  | .slice none 0 0 => some .nils
  | .map none => some .nilm
  | .nilFunc => some .nilf
  | _ => none
def shOf (P : Program) : TypeDesc → Sh
  | .int k => .int k
  | .bool => .bool
  | .string => .str
  | .pointer _ => .ptr
  | .slice e => .slice e
  | .map k e => .map k e
  | .struct fs => .struct (fs.toList.map fun f => (f.offset, f.type, P.cellsOf f.type))
  | .array n e => .array n e
  | .func _ _ _ => .func
  | _ => .other
def flatSh (P : Program) : List Field → Nat → Option (List Sh)
  | [], _ => some []
  | f :: r, o => match f.name == "_" || !(Nat.beq f.offset o) with
    | true => none
    | false => match P.underlying f.type with
      | some (.int k) => match flatSh P r (o + 1) with
        | some l => some (.int k :: l)
        | none => none
      | some .bool => match flatSh P r (o + 1) with
        | some l => some (.bool :: l)
        | none => none
      | some .string => match flatSh P r (o + 1) with
        | some l => some (.str :: l)
        | none => none
      | _ => none
def flatEl (P : Program) (e : Nat) : Option Sh :=
  match Nat.beq (P.cellsOf e) 1 with
  | false => none
  | true => match P.underlying e with
    | some (.int k) => some (.int k)
    | some .bool => some .bool
    | some .string => some .str
    | _ => none
def eqShs (P : Program) (t : Nat) : TypeDesc → List Sh
  | .array n e => match P.eqGuardType P.depth t || Nat.ble 65 n with
    | true => []
    | false => match flatEl P e with
      | some sh => List.replicate n sh
      | none => []
  | .struct fs => match P.stoodInHeld t || P.eqGuardType P.depth t with
    | true => []
    | false => match flatSh P fs.toList 0 with
      | some l => l
      | none => []
  | _ => []
def zshB (v : Value) (sh : Sh) : Bool :=
  match v with
  | .agg _ => match sh with
    | .struct _ => true
    | .array _ _ => true
    | _ => false
  | _ => match sh with
    | .struct _ => false
    | .array _ _ => false
    | _ => true
def Td.of (P : Program) (t : Nat) : Option Td :=
  match P.info? t, P.underlying t with
  | some i, some d => some ⟨i.size, i.bytes, shOf P d, match i.zero with | some v => v.cells.toList.map fun c => (ofVal c).getD .ff | none => [],
      match i.zero with | some v => (zshB v (shOf P d) && (v.cells.toList.all fun c => (ofVal c).isSome)) && Nat.beq v.cells.size i.size | none => false, eqShs P t d⟩
  | _, _ => none
def Valid (tb : Tb) (P : Program) : Prop := ∀ t d, (t, d) ∈ tb → Td.of P t = some d
theorem Valid.mk {tb : Tb} {P : Program} (h : tb.map (fun p => Td.of P p.1) = tb.map fun p => some p.2) : Valid tb P := by
  intro t d hm
  have := List.map_inj_left.1 h (t, d) hm
  exact this
def td (tb : Tb) (t : Nat) (K : Td → Prop) : Prop :=
  match tb with
  | [] => False
  | (j, d) :: r => match Nat.beq j t with
    | true => K d
    | false => td r t K
structure Both (A B : Prop) : Prop where
  fst : A
  snd : B
def lk (t : List (Nat × T)) (i : Nat) (K : T → Prop) : Prop :=
  match t with
  | [] => False
  | (j, v) :: r => match Nat.beq j i with
    | true => K v
    | false => lk r i K
def ev (s : S) (x : Operand) (K : T → Prop) : Prop :=
  match x with
  | .tmp i => lk s.t i K
  | .const v => match ofVal v with
    | some r => K (.c r)
    | none => False
  | .func f => K (.c (.fn f []))
  | .global _ => False
def evC (s : S) (x : Operand) (K : C → Prop) : Prop :=
  ev s x fun v => match v with
    | .c r => K r
    | _ => False
def evs (s : S) : List Operand → (List T → Prop) → Prop
  | [], K => K []
  | x :: r, K => ev s x fun v => evs s r fun l => K (v :: l)
def nth {α : Type} : List α → Nat → (α → Prop) → Prop
  | [], _, _ => False
  | a :: _, 0, K => K a
  | _ :: l, i + 1, K => nth l i K
def cut {α : Type} : List α → Nat → Nat → (List α → Prop) → Prop
  | _, 0, 0, K => K []
  | [], _, _, _ => False
  | a :: l, 0, n + 1, K => cut l 0 n fun r => K (a :: r)
  | _ :: l, o + 1, n, K => cut l o n K
def lay {α : Type} : List α → Nat → List α → (List α → Prop) → Prop
  | l, _, [], K => K l
  | [], _, _ :: _, _ => False
  | _ :: l, 0, v :: vs, K => lay l 0 vs fun r => K (v :: r)
  | a :: l, o + 1, vs, K => lay l o vs fun r => K (a :: r)
structure ManyK (c : Ck) (K : Ck → Prop) : Prop where
  ex : ∃ ck, c = ck ∧ K ck
theorem ManyK.here {c : Ck} {K : Ck → Prop} (h : K c) : ManyK c K := ⟨c, rfl, h⟩
theorem ManyK.of {c : Ck} {K : Ck → Prop} (h : ManyK c K) : K c := by
  obtain ⟨ck, rfl, h⟩ := h.ex
  exact h
def Fam.atK (m : Fam) (x : Nat) (K : Ck → Prop) : Prop :=
  match m with
  | .one q => match x with
    | 0 => K q
    | _ + 1 => False
  | .many g => ManyK (g x) K
def getK (h : List Fam) (f x : Nat) (K : Ck → Prop) : Prop := nth h f fun m => m.atK x K
def Fam.updK (m : Fam) (x : Nat) (ck : Ck) (K : Fam → Prop) : Prop :=
  match m with
  | .one _ => match x with
    | 0 => K (.one ck)
    | _ + 1 => False
  | .many g => K (.many fun y => if y = x then ck else g y)
def updK : List Fam → Nat → Nat → Ck → (List Fam → Prop) → Prop
  | [], _, _, _, _ => False
  | m :: l, 0, x, ck, K => m.updK x ck fun m' => K (m' :: l)
  | m :: l, f + 1, x, ck, K => updK l f x ck fun l' => K (m :: l')
def litK (n : Nat) (K : Nat → Prop) : Prop :=
  match n with
  | 0 => K 0
  | m + 1 => K (m + 1)
theorem litK_eq (n : Nat) (K : Nat → Prop) : litK n K = K n := by cases n <;> rfl
def addK : List Fam → Ck → (Nat → List Fam → Prop) → Prop
  | [], ck, K => K 0 [.one ck]
  | m :: l, ck, K => addK l ck fun i l' => litK (i + 1) fun j => K j (m :: l')
def In64 (x : Int) : Prop := -9223372036854775808 ≤ x ∧ x ≤ 9223372036854775807
def arith (k : IntKind) (x : Int) (K : T → Prop) : Prop :=
  match k with
  | .i64 => In64 x ∧ K (.c (.i .i64 x))
  | k => K (.c (.i k (k.wrap x)))
def kNat : IntKind → Nat
  | .i8 => 0 | .i16 => 1 | .i32 => 2 | .i64 => 3 | .u8 => 4 | .u16 => 5 | .u32 => 6 | .u64 => 7
def sameK (k l : IntKind) (A : Prop) : Prop :=
  match Nat.beq (kNat k) (kNat l) with
  | true => A
  | false => False
def cellEq : C → C → (Bool → Prop) → Prop
  | .i k a, .i k' b, K => sameK k k' (K (decide (a = b)))
  | .s a, .s b, K => K (decide (a = b))
  | .b a, .b b, K => K (a == b)
  | .b a, .tt, K => K a
  | .b a, .ff, K => K (!a)
  | .tt, .b a, K => K a
  | .ff, .b a, K => K (!a)
  | .tt, .tt, K => K true
  | .ff, .ff, K => K true
  | .tt, .ff, K => K false
  | .ff, .tt, K => K false
  | _, _, _ => False
def intBin (op : BinOp) (k : IntKind) (a b : Int) (K : T → Prop) : Prop :=
  match op with
  | .add => arith k (a + b) K
  | .sub => arith k (a - b) K
  | .mul => arith k (a * b) K
  | .quo => b ≠ 0 ∧ arith k (a.tdiv b) K
  | .rem => b ≠ 0 ∧ K (.c (.i k (a.tmod b)))
  | .eql => K (.c (.b (decide (a = b))))
  | .neq => K (.c (.b (!decide (a = b))))
  | .lss => K (.c (.b (decide (a < b))))
  | .leq => K (.c (.b (decide (a ≤ b))))
  | .gtr => K (.c (.b (decide (b < a))))
  | .geq => K (.c (.b (decide (b ≤ a))))
  | .and => K (.c (.i k (k.wrap (BitVec.ofInt k.bits a &&& BitVec.ofInt k.bits b).toNat)))
  | .or => K (.c (.i k (k.wrap (BitVec.ofInt k.bits a ||| BitVec.ofInt k.bits b).toNat)))
  | .xor => K (.c (.i k (k.wrap (BitVec.ofInt k.bits a ^^^ BitVec.ofInt k.bits b).toNat)))
  | _ => False
def intOp (op : BinOp) (k k' : IntKind) (a b : Int) (K : T → Prop) : Prop :=
  match op with
  | .shl => 0 ≤ b ∧ K (.c (.i k (k.wrap (a * 2 ^ min b.toNat k.bits))))
  | .shr => 0 ≤ b ∧ K (.c (.i k (a.fdiv (2 ^ min b.toNat k.bits))))
  | op => sameK k k' (intBin op k a b K)
def strBin (op : BinOp) (a b : ByteArray) (K : T → Prop) : Prop :=
  match op with
  | .add => (a.size + b.size ≤ 9223372036854775807) ∧ K (.c (.s (a ++ b)))
  | .eql => K (.c (.b (decide (a = b))))
  | .neq => K (.c (.b (!decide (a = b))))
  | .lss => K (.c (.b (Op.bytesLess a.toList b.toList)))
  | .leq => K (.c (.b (Op.bytesLess a.toList b.toList || decide (a = b))))
  | .gtr => K (.c (.b (!(Op.bytesLess a.toList b.toList || decide (a = b)))))
  | .geq => K (.c (.b (!Op.bytesLess a.toList b.toList)))
  | _ => False
def known (op : BinOp) (r : Bool) (K : T → Prop) : Prop :=
  match op, r with
  | .eql, true => K (.c .tt)
  | .eql, false => K (.c .ff)
  | .neq, true => K (.c .ff)
  | .neq, false => K (.c .tt)
  | _, _ => False
def C.isB : C → Bool
  | .tt | .ff | .b _ => true
  | _ => false
def bin (op : BinOp) (d : Sh) (x y : C) (K : T → Prop) : Prop :=
  match x, y with
  | .i k a, .i k' b => intOp op k k' a b K
  | .s a, .s b => strBin op a b K
  | .nilp, .nilp => match d with | .ptr => known op true K | _ => False
  | .p _ _ _, .nilp => match d with | .ptr => known op false K | _ => False
  | .nilp, .p _ _ _ => match d with | .ptr => known op false K | _ => False
  | .nils, .nils => match d with | .slice _ => known op true K | _ => False
  | .nilm, .nilm => match d with | .map _ _ => known op true K | _ => False
  | .mp _ _, .nilm => match d with | .map _ _ => known op false K | _ => False
  | a, b => match d, a.isB with
    | .bool, true => match op with
      | .eql => cellEq a b fun r => K (.c (.b r))
      | .neq => cellEq a b fun r => K (.c (.b (!r)))
      | _ => False
    | _, _ => False
def eqSh (sh : Sh) (x y : C) (K : Bool → Prop) : Prop :=
  match sh, x, y with
  | .int k, .i j a, .i j' b => sameK k j (sameK j j' (K (decide (a = b))))
  | .str, .s a, .s b => K (decide (a = b))
  | .bool, a, b => match a.isB with
    | true => cellEq a b K
    | false => False
  | _, _, _ => False
def allEq : List Sh → List C → List C → (Bool → Prop) → Prop
  | [], [], [], K => K true
  | s :: r, a :: l, b :: m, K => eqSh s a b fun x => allEq r l m fun y => K (x && y)
  | _, _, _, _ => False
def binA (op : BinOp) (d : Td) (l m : List C) (K : T → Prop) : Prop :=
  match d.eqs with
  | [] => False
  | s :: r => allEq (s :: r) l m fun x => match op with
    | .eql => K (.c (.b x))
    | .neq => K (.c (.b (!x)))
    | _ => False
def loadAt (d : Td) (l : List C) (o : Nat) (K : T → Prop) : Prop :=
  match d.sh with
  | .struct _ => cut l o d.size fun r => K (.a r)
  | .array _ _ => cut l o d.size fun r => K (.a r)
  | _ => nth l o fun v => K (.c v)
def flatR (g : Nat → List C) : Nat → Nat → List C
  | _, 0 => []
  | e, m + 1 => g e ++ flatR g (e + 1) m
def loadRow (d : Td) (z n : Nat) (g : Nat → List C) (e j : Nat) (K : T → Prop) : Prop :=
  match Nat.ble d.size z with
  | true => e < n ∧ loadAt d (g e) j K
  | false => match d.sh with
    | .array m _ => (j = 0 ∧ e + m ≤ n ∧ m * z = d.size) ∧ K (.a (flatR g e m))
    | _ => False
def load (tb : Tb) (s : S) (t : Nat) (a : C) (K : T → Prop) : Prop :=
  td tb t fun d =>
    match a with
    | .p f x o => getK s.h f x fun ck => match ck with
      | .cells _ l => loadAt d l o K
      | _ => False
    | .pe f x z e j => getK s.h f x fun ck => match ck with
      | .row _ _ _ z' n _ g => z' = z ∧ loadRow d z n g e j K
      | _ => False
    | _ => False
def lenOf (v : C) (d : Sh) (K : T → Prop) : Prop :=
  match v, d with
  | .s x, .str => K (.c (.i .i64 x.size))
  | .nils, .slice _ => K (.c (.i .i64 0))
  | .sl _ _ _ _ n _, .slice _ => K (.c (.i .i64 n))
  | _, _ => False
def sliceS (b : ByteArray) (lo hi : Option C) (K : T → Prop) : Prop :=
  match lo, hi with
  | some (.i _ l), some (.i _ h) => (0 ≤ l ∧ l ≤ h ∧ h ≤ b.size) ∧ K (.c (.s (b.extract l.toNat h.toNat)))
  | some (.i _ l), none => (0 ≤ l ∧ l ≤ b.size) ∧ K (.c (.s (b.extract l.toNat b.size)))
  | none, some (.i _ h) => (0 ≤ h ∧ h ≤ b.size) ∧ K (.c (.s (b.extract 0 h.toNat)))
  | none, none => K (.c (.s (b.extract 0 b.size)))
  | _, _ => False
def sliceV (f x z o n c : Nat) (lo hi mx : Option C) (K : T → Prop) : Prop :=
  match mx with
  | none => match lo, hi with
    | some (.i _ l), some (.i _ h) => (0 ≤ l ∧ l ≤ h ∧ h ≤ c) ∧ K (.c (.sl f x z (if c = l.toNat then o else o + l.toNat) (h.toNat - l.toNat) (c - l.toNat)))
    | some (.i _ l), none => (0 ≤ l ∧ l ≤ n) ∧ K (.c (.sl f x z (if c = l.toNat then o else o + l.toNat) (n - l.toNat) (c - l.toNat)))
    | none, some (.i _ h) => (0 ≤ h ∧ h ≤ c) ∧ K (.c (.sl f x z o h.toNat c))
    | none, none => K (.c (.sl f x z o n c))
    | _, _ => False
  | some (.i _ m) => match lo, hi with
    | some (.i _ l), some (.i _ h) => (0 ≤ l ∧ l ≤ h ∧ h ≤ m ∧ m ≤ c) ∧ K (.c (.sl f x z (if m.toNat = l.toNat then o else o + l.toNat) (h.toNat - l.toNat) (m.toNat - l.toNat)))
    | none, some (.i _ h) => (0 ≤ h ∧ h ≤ m ∧ m ≤ c) ∧ K (.c (.sl f x z o h.toNat m.toNat))
    | _, _ => False
  | _ => False
def sliceN (lo hi mx : Option C) (K : T → Prop) : Prop :=
  match lo, hi, mx with
  | some (.i _ l), none, none => l = 0 ∧ K (.c .nils)
  | none, some (.i _ h), none => h = 0 ∧ K (.c .nils)
  | some (.i _ l), some (.i _ h), none => l = 0 ∧ h = 0 ∧ K (.c .nils)
  | none, none, none => K (.c .nils)
  | _, _, _ => False
def evO (s : S) (x : Option Operand) (K : Option C → Prop) : Prop :=
  match x with
  | none => K none
  | some x => evC s x fun v => K (some v)
def caps : List T → (List (Nat × Nat × Nat) → Prop) → Prop
  | [], K => K []
  | .c (.p f x o) :: r, K => caps r fun l => K ((f, x, o) :: l)
  | _, _ => False
def intsK : List C → (List (IntKind × Int) → Prop) → Prop
  | [], K => K []
  | .i k n :: r, K => intsK r fun q => K ((k, n) :: q)
  | _, _ => False
def firsts : List T → (List (List (IntKind × Int)) → Prop) → Prop
  | [], K => K []
  | .a l :: r, K => intsK l fun q => firsts r fun rs => K (q :: rs)
  | _, _ => False
def br (v : C) (A B : Prop) : Prop :=
  match v with
  | .tt => A
  | .ff => B
  | .b x => (x = true → A) ∧ (x = false → B)
  | _ => False
def E.toT (e : E) (K : T → Prop) : Prop :=
  match e with
  | .c v => K (.c v)
  | .a l => K (.a l)
def builtinOp (tb : Tb) (s : S) (b : Builtin) (args : List Operand) (ats : List Nat) (K : T → Prop) : Prop :=
  match b with
  | .len => match args, ats with
    | [x], [t] => evC s x fun v => td tb t fun d => match v with
      | .mp f y => getK s.h f y fun ck => match ck with
        | .map _ _ _ n _ => match d.sh with
          | .map _ _ => K (.c (.i .i64 n))
          | _ => False
        | _ => False
      | v => lenOf v d.sh K
    | _, _ => False
  | .max => match args with
    | [x, y] => evC s x fun a => evC s y fun b => match a, b with
      | .i .i64 a, .i .i64 b => K (.c (.i .i64 (max a b)))
      | _, _ => False
    | _ => False
  | .min => match args with
    | [x, y] => evC s x fun a => evC s y fun b => match a, b with
      | .i .i64 a, .i .i64 b => K (.c (.i .i64 (min a b)))
      | _, _ => False
    | _ => False
  | _ => False
def nilK (op : BinOp) (c : Nat) (K : T → Prop) : Prop :=
  match op with
  | .eql => ∀ b : Bool, (b = true → c = 0) → K (.c (.b b))
  | .neq => ∀ b : Bool, (b = false → c = 0) → K (.c (.b b))
  | _ => False
def binV (s : S) (op : BinOp) (d : Td) (a b : T) (K : T → Prop) : Prop :=
  match a, b with
  | .c (.sl f x _ _ _ _), .c .nils => match d.sh with
    | .slice _ => getK s.h f x fun ck => match ck with
      | .row _ _ _ _ _ c' _ => nilK op c' K
      | _ => False
    | _ => False
  | .c a, .c b => bin op d.sh a b K
  | .a l, .a m => binA op d l m K
  | _, _ => False
def isU8 (l : List C) : Bool :=
  match l with
  | [.i k _] => Nat.beq (kNat k) 4
  | _ => false
def byteOf (l : List C) : UInt8 :=
  match l with
  | [.i _ n] => UInt8.ofNat n.toNat
  | _ => 0
def bytesOf (g : Nat → List C) (o n : Nat) : ByteArray := ⟨(Array.range n).map fun i => byteOf (g (o + i))⟩
def strOf (s : S) (tb : Tb) (ds : Sh) (v : C) (K : T → Prop) : Prop :=
  match ds with
  | .slice e => td tb e fun de => match de.sh with
    | .int k => sameK k .u8 (match v with
      | .nils => K (.c (.s ByteArray.empty))
      | .sl f x z o n _ => getK s.h f x fun ck => match ck with
        | .row _ _ _ z' n' _ g => (z = 1 ∧ z' = 1 ∧ o + n ≤ n' ∧ ∀ i, i < n → isU8 (g (o + i)) = true) ∧ K (.c (.s (bytesOf g o n)))
        | _ => False
      | _ => False)
    | _ => False
  | _ => False
def xpure (tb : Tb) (s : S) (op : Op) (K : T → Prop) : Prop :=
  match op with
  | .move x => ev s x K
  | .assign x => ev s x K
  | .pick q a b => evC s q fun cv => br cv (ev s a K) (ev s b K)
  | .load t a => evC s a fun v => load tb s t v K
  | .nilCheck x => evC s x fun v => match v with
    | .p f x o => K (.c (.p f x o))
    | .pe f x z e j => K (.c (.pe f x z e j))
    | _ => False
  | .binOp op t x y _ => ev s x fun a => ev s y fun b => td tb t fun d => binV s op d a b K
  | .unOp op _ x => evC s x fun v => match op with
    | .not => match v with
      | .tt => K (.c .ff)
      | .ff => K (.c .tt)
      | .b x => K (.c (.b (!x)))
      | _ => False
    | .neg => match v with
      | .i k n => arith k (0 - n) K
      | _ => False
    | .xor => match v with
      | .i k n => K (.c (.i k (k.wrap (BitVec.ofInt k.bits (if k.signed then -1 else k.max) ^^^ BitVec.ofInt k.bits n).toNat)))
      | _ => False
    | _ => False
  | .convert src dst x => evC s x fun v => td tb src fun ds => td tb dst fun d => match d.sh with
    | .int k => match v with
      | .i _ n => K (.c (.i k (k.wrap n)))
      | _ => False
    | .str => match v with
      | .s b => K (.c (.s b))
      | v => strOf s tb ds.sh v K
    | _ => False
  | .makeFunc (.func F) first cs => match first.toList with
    | [] => evs s cs.toList fun l => caps l fun r => K (.c (.fn F r))
    | x :: xs => match cs.toList with
      | [] => evs s (x :: xs) fun l => firsts l fun r => K (.c (.bf F r))
      | _ => False
  | .slice t x lo hi mx => evC s x fun v => evO s lo fun lo => evO s hi fun hi => evO s mx fun mx => td tb t fun d => match d.sh with
    | .str => match v with
      | .s b => match mx with
        | none => sliceS b lo hi K
        | _ => False
      | _ => False
    | .slice e => td tb e fun d => match v with
      | .sl f x z o n c => d.size = z ∧ sliceV f x z o n c lo hi mx K
      | .nils => sliceN lo hi mx K
      | _ => False
    | .array n e => td tb e fun d => match v with
      | .pe f x z e0 j => getK s.h f x fun ck => match ck with
        | .row _ _ _ _ n' _ _ => (d.size = z ∧ j = 0 ∧ 0 < n ∧ e0 + n ≤ n') ∧ sliceV f x z e0 n n lo hi mx K
        | _ => False
      | _ => False
    | _ => False
  | .fieldAddr t x i => evC s x fun v => td tb t fun d => match d.sh with
    | .struct fl => nth fl i fun p => match p.2.2 with
      | 0 => False
      | _ + 1 => match v with
        | .p f x o => K (.c (.p f x (o + p.1)))
        | .pe f x z e j => K (.c (.pe f x z e (j + p.1)))
        | _ => False
    | _ => False
  | .field t x i => ev s x fun v => td tb t fun d => match v, d.sh with
    | .a l, .struct fl => nth fl i fun p => td tb p.2.1 fun d' => loadAt d' l p.1 K
    | _, _ => False
  | .indexAddr t x i => evC s x fun v => evC s i fun i => td tb t fun d => match i with
    | .i _ i => match d.sh with
      | .slice e => td tb e fun d => match v with
        | .sl f x z o n _ => getK s.h f x fun ck => match ck with
          | .row _ _ _ _ n' _ _ => d.size = z ∧ (0 ≤ i ∧ i < n ∧ o + i.toNat < n') ∧ K (.c (.pe f x z (o + i.toNat) 0))
          | _ => False
        | _ => False
      | .array n e => td tb e fun d => match v with
        | .pe f x z e0 j => match Nat.beq d.size z with
          | true => (d.size = z ∧ j = 0 ∧ 0 ≤ i ∧ i < n) ∧ K (.c (.pe f x z (e0 + i.toNat) 0))
          | false => (0 ≤ i ∧ i < n) ∧ K (.c (.pe f x z e0 (j + i.toNat * d.size)))
        | .p f x o => (0 ≤ i ∧ i < n) ∧ K (.c (.p f x (o + i.toNat * d.size)))
        | _ => False
      | _ => False
    | _ => False
  | .index t x i => ev s x fun v => evC s i fun i => td tb t fun d => match i with
    | .i _ i => match v with
      | .c (.s b) => match d.sh with
        | .str => (0 ≤ i ∧ i < b.size) ∧ K (.c (.i .u8 (b.get! i.toNat).toNat))
        | _ => False
      | .a l => match d.sh with
        | .array n e => td tb e fun d' => (0 ≤ i ∧ i < n) ∧ loadAt d' l (i.toNat * d'.size) K
        | _ => False
      | _ => False
    | _ => False
  | .extract x i => ev s x fun v => match v with
    | .t l => nth l i fun e => e.toT K
    | _ => False
  | .call { callee := .builtin b, args, argTypes } => builtinOp tb s b args.toList argTypes.toList K
  | _ => False
end Go.X
namespace Go.X
inductive Fl where
  | live | nil | odd (q : Nat)
theorem Fl.live_of {f : Fl} (h : f ≠ .live → False) : f = .live := by
  cases f with
  | live => rfl
  | nil => exact (h (by simp)).elim
  | odd q => exact (h (by simp)).elim
abbrev Nm := Nat → Nat → Nat × Nat × Fl
def place (β : Nm) (f x o : Nat) : Addr := ⟨(β f x).1, (β f x).2.1 + o, none⟩
def C.ren (β : Nm) : C → Value
  | .tt => .bool true
  | .ff => .bool false
  | .b x => .bool x
  | .i k n => .int k n
  | .s x => .string x
  | .nilp => .pointer none
  | .p f x o => .pointer (some (place β f x o))
  | .pe f x z e j => .pointer (some (place β f x (e * z + j)))
  | .nils => .slice none 0 0
  | .sl f x z o n c => match (β f x).2.2 with
    | .live => .slice (some (place β f x (o * z))) n c
    | .nil => .slice none n c
    | .odd q => .slice (some (Addr.add ⟨(β f x).1, (β f x).2.1, some q⟩ (o * z))) n c
  | .nilm => .map none
  | .mp f x => .map (some (β f x).1)
  | .nilf => .nilFunc
  | .fn F l => .func (.func F) #[] (l.map fun q => Value.pointer (some (place β q.1 q.2.1 q.2.2))).toArray
  | .bf F fs => .func (.func F) (fs.map fun l => Value.agg (l.map fun q => Value.int q.1 q.2).toArray).toArray #[]
def renL (β : Nm) (l : List C) : Array Value := (l.map (C.ren β)).toArray
def E.ren (β : Nm) : E → Value
  | .c v => v.ren β
  | .a l => .agg (renL β l)
def Key.ren : Key → Value
  | .i n => .int .i64 n
  | .s b => .string b
def T.ren (β : Nm) : T → Value
  | .c v => v.ren β
  | .a l => .agg (renL β l)
  | .t l => .tuple (l.map (E.ren β)).toArray
theorem ofVal_ren {v : Value} {c : C} (h : ofVal v = some c) (β : Nm) : c.ren β = v := by
  unfold ofVal at h
  split at h <;> first | (cases h; rfl) | cases h
def Fam.at (m : Fam) (x : Nat) : Ck :=
  match m with
  | .one q => match x with
    | 0 => q
    | _ + 1 => .no
  | .many g => g x
def get (h : List Fam) (f x : Nat) : Ck :=
  match h[f]? with
  | some m => m.at x
  | none => .no
def Ck.owned : Ck → Bool
  | .cells w _ => w
  | .row w _ _ _ _ c _ => w && !Nat.beq c 0
  | .no => false
  | .map w _ _ _ _ => w
  | .iter _ _ _ _ => true
def Ck.known : Ck → Bool
  | .no => false
  | .cells _ _ => true
  | .row _ _ _ _ _ c _ => !Nat.beq c 0
  | .map _ _ _ _ _ => true
  | .iter _ _ _ _ => true
theorem row_known {w k : Bool} {e z n c : Nat} {f : Nat → List C} (h : c ≠ 0) : (Ck.row w k e z n c f).known = true := by
  unfold Ck.known
  cases hb : Nat.beq c 0 with
  | true => exact absurd (Nat.eq_of_beq_eq_true hb) h
  | false => simp [hb]
theorem row_owned {k : Bool} {e z n c : Nat} {f : Nat → List C} (h : c ≠ 0) : (Ck.row true k e z n c f).owned = true := by
  unfold Ck.owned
  cases hb : Nat.beq c 0 with
  | true => exact absurd (Nat.eq_of_beq_eq_true hb) h
  | false => simp [hb]
def C.flat : C → Bool
  | .p _ _ _ | .pe _ _ _ _ _ | .sl _ _ _ _ _ _ | .mp _ _ => false
  | .fn _ l => l.isEmpty
  | _ => true
theorem C.flat_ren {v : C} (h : v.flat = true) (β β' : Nm) : v.ren β = v.ren β' := by
  cases v <;> simp_all [C.flat, C.ren]
def E.flat : E → Bool
  | .c v => v.flat
  | .a l => l.all C.flat
theorem E.flat_ren {v : E} (h : v.flat = true) (β β' : Nm) : v.ren β = v.ren β' := by
  cases v with
  | c v => exact C.flat_ren h β β'
  | a l =>
    simp only [E.ren, renL]
    congr 2
    exact List.map_congr_left fun v hv => C.flat_ren (List.all_eq_true.1 h v hv) β β'
def Ck.holds (β : Nm) (w : World) (a : Nat × Nat × Fl) : Ck → Prop
  | .no => True
  | .cells own l => ∃ cur e fz, w.heap[a.1]? = some (.cells cur e fz) ∧ (∀ j v, l[j]? = some v → cur[a.2.1 + j]? = some (v.ren β)) ∧ (own = true → fz = (0, 0))
  | .row own k e z n c f => n ≤ c ∧ (a.2.2 ≠ .live → c = 0) ∧ (k = false → ∀ i, i < n → ∀ v ∈ f i, v.flat = true) ∧ (∀ i, i < n → (f i).length = z) ∧
      (c ≠ 0 → ∃ cur te fz, w.heap[a.1]? = some (.cells cur te fz) ∧ (∀ i, i < n → ∀ j v, (f i)[j]? = some v → cur[a.2.1 + (i * z + j)]? = some (v.ren β)) ∧
        (own = true → te = e ∧ fz = (0, 0) ∧ c ≤ maxLen ∧ a.2.1 + c * z ≤ cur.size))
  | .map _ k ck n f => (∃ es, w.heap[a.1]? = some (.map es ck) ∧ es.size = n ∧ ∀ i, i < n → es[i]? = some ⟨(f i).2.1.ren, (f i).2.2.ren β, (f i).1⟩) ∧
      (∀ i, i < n → (f i).1 < ck) ∧ (∀ i j, i < j → j < n → (f i).1 < (f j).1 ∧ (f i).2.1 ≠ (f j).2.1) ∧ (k = false → ∀ i, i < n → (f i).2.2.flat = true)
  | .iter m x ck seen => a.2.1 = 0 ∧ w.heap[a.1]? = some (.mapIter (some (β m x).1) ck seen.toArray ck)
def capsP : List Fam → Prop
  | [] => True
  | .one (.row _ _ _ _ n c _) :: r => n ≤ c ∧ capsP r
  | _ :: r => capsP r
structure Fits (β : Nm) (h : List Fam) (w : World) : Prop where
  ck : ∀ f x, (get h f x).holds β w (β f x)
  sep : ∀ f x g y, (f, x) ≠ (g, y) → (get h f x).owned = true → (get h g y).known = true → (β f x).1 ≠ (β g y).1
theorem capsP_of {β : Nm} {w : World} {h : List Fam} (hf : Fits β h w) : capsP h := by
  have : ∀ (l : List Fam) (i : Nat), (∀ j m, l[j]? = some m → h[i + j]? = some m) → capsP l := by
    intro l
    induction l with
    | nil => intro i _; trivial
    | cons m l ih =>
      intro i hl
      have hr := ih (i + 1) (fun j m hj => by have := hl (j + 1) m (by simpa using hj); rwa [show i + 1 + j = i + (j + 1) from by omega])
      unfold capsP
      split
      · trivial
      · rename_i heq
        cases heq
        have h0 := hl 0 _ rfl
        have := hf.ck i 0
        unfold get at this
        rw [Nat.add_zero] at h0
        rw [h0] at this
        exact ⟨this.1, hr⟩
      · rename_i heq
        cases heq
        exact hr
  exact this h 0 (fun j m hj => by simpa using hj)
def find (t : List (Nat × T)) (i : Nat) : Option T :=
  match t with
  | [] => none
  | (j, v) :: r => if j = i then some v else find r i
structure Tmps (β : Nm) (s : S) (a : Act) : Prop where
  tm : ∀ i v, find s.t i = some v → a.tmps[i]? = some (v.ren β)
theorem td_of {tb : Tb} {P : Program} (hv : Valid tb P) {t : Nat} {K : Td → Prop} (h : td tb t K) : ∃ d, Td.of P t = some d ∧ K d := by
  have : ∀ (l : Tb), (∀ x ∈ l, x ∈ tb) → td l t K → ∃ d, Td.of P t = some d ∧ K d := by
    intro l
    induction l with
    | nil => intro _ h; exact h.elim
    | cons p l ih =>
      obtain ⟨j, d⟩ := p
      intro hl h1
      unfold td at h1
      split at h1
      · rename_i hb
        have e : j = t := Nat.eq_of_beq_eq_true hb
        exact ⟨d, e ▸ hv j d (hl _ (by simp)), h1⟩
      · exact ih (fun x hx => hl x (by simp [hx])) h1
  exact this tb (fun _ hx => hx) h
theorem Td.of_spec {P : Program} {t : Nat} {d : Td} (h : Td.of P t = some d) :
    ∃ i u, P.info? t = some i ∧ P.underlying t = some u ∧ d.size = i.size ∧ d.bytes = i.bytes ∧ d.sh = shOf P u ∧
      (d.zok = true → ∃ z, i.zero = some z ∧ d.zero.length = i.size ∧ ∀ β, z.cells = renL β d.zero) := by
  unfold Td.of at h
  split at h
  · rename_i i u hi hu
    cases h
    refine ⟨i, u, hi, hu, rfl, rfl, rfl, ?_⟩
    intro hz
    simp only at hz
    split at hz
    · rename_i z hz0
      obtain ⟨hz, hzs⟩ := Bool.and_eq_true_iff.1 hz
      obtain ⟨_, hz⟩ := Bool.and_eq_true_iff.1 hz
      refine ⟨z, hz0, by simpa using Nat.eq_of_beq_eq_true hzs, fun β => ?_⟩
      unfold renL
      simp only [List.map_map]
      apply Array.toList_inj.1
      simp only
      conv => lhs; rw [← List.map_id z.cells.toList]
      apply List.map_congr_left
      intro c hc
      have := List.all_eq_true.1 hz c hc
      obtain ⟨r, hr⟩ := Option.isSome_iff_exists.1 this
      simp [hr, ofVal_ren hr β]
    · cases hz
  · cases h
theorem Td.zsh {P : Program} {t : Nat} {d : Td} (h : Td.of P t = some d) (hz : d.zok = true) {i : TypeInfo} {z : Value} (hi : P.info? t = some i) (hz0 : i.zero = some z) : zshB z d.sh = true := by
  unfold Td.of at h
  rw [hi] at h
  split at h
  · rename_i i' u hi' hu
    cases hi'
    cases h
    simp only [hz0] at hz
    exact (Bool.and_eq_true_iff.1 (Bool.and_eq_true_iff.1 hz).1).1
  · cases h
theorem Td.of_eqs {P : Program} {t : Nat} {d : Td} {u : TypeDesc} (h : Td.of P t = some d) (hu : P.underlying t = some u) : d.eqs = eqShs P t u := by
  unfold Td.of at h
  rw [hu] at h
  split at h
  · rename_i i u' _ hu'
    cases hu'
    cases h
    rfl
  · cases h
theorem lk_of {t : List (Nat × T)} {i : Nat} {K : T → Prop} (h : lk t i K) : ∃ v, find t i = some v ∧ K v := by
  induction t with
  | nil => exact h.elim
  | cons p r ih =>
    obtain ⟨j, v⟩ := p
    unfold lk at h
    unfold find
    split at h
    · rename_i hb
      rw [if_pos (Nat.eq_of_beq_eq_true hb)]
      exact ⟨v, rfl, h⟩
    · rename_i hb
      rw [if_neg (Nat.ne_of_beq_eq_false hb)]
      exact ih h
variable {β : Nm} {s : S} {a : Act} {w : World} {P : Program} {tb : Tb}
theorem ev_of (ht : Tmps β s a) {x : Operand} {K : T → Prop} (h : ev s x K) : ∃ v, a.eval x = v.ren β ∧ K v := by
  cases x with
  | tmp i =>
    obtain ⟨v, hv, hk⟩ := lk_of h
    have := ht.tm i v hv
    exact ⟨v, by simp [Act.eval, this], hk⟩
  | const v =>
    unfold ev at h
    simp only at h
    split at h
    · rename_i r hr
      exact ⟨.c r, (ofVal_ren hr β).symm, h⟩
    · exact h.elim
  | func f => exact ⟨.c (.fn f []), by simp [Act.eval, T.ren, C.ren], h⟩
  | global g => exact h.elim
theorem evC_of (ht : Tmps β s a) {x : Operand} {K : C → Prop} (h : evC s x K) : ∃ v : C, a.eval x = v.ren β ∧ K v := by
  obtain ⟨v, hv, hk⟩ := ev_of ht h
  cases v with
  | c r => exact ⟨r, hv, hk⟩
  | a l => exact hk.elim
  | t l => exact hk.elim
theorem evs_of (ht : Tmps β s a) : ∀ {xs : List Operand} {K : List T → Prop}, evs s xs K → ∃ vs, xs.map a.eval = vs.map (T.ren β) ∧ K vs
  | [], K, h => ⟨[], rfl, h⟩
  | x :: xs, K, h => by
    obtain ⟨v, hv, hk⟩ := ev_of ht h
    obtain ⟨vs, hvs, hk⟩ := evs_of ht hk
    exact ⟨v :: vs, by simp [hv, hvs], hk⟩
theorem evO_of (ht : Tmps β s a) {x : Option Operand} {K : Option C → Prop} (h : evO s x K) : ∃ v, x.map a.eval = v.map (C.ren β) ∧ K v := by
  cases x with
  | none => exact ⟨none, rfl, h⟩
  | some x =>
    obtain ⟨v, hv, hk⟩ := evC_of ht h
    exact ⟨some v, by simp [hv], hk⟩
theorem nth_of {α : Type} : ∀ {l : List α} {i : Nat} {K : α → Prop}, nth l i K → ∃ v, l[i]? = some v ∧ K v
  | [], i, K, h => by cases i <;> exact h.elim
  | a :: l, 0, K, h => ⟨a, rfl, h⟩
  | a :: l, i + 1, K, h => by
    obtain ⟨v, hv, hk⟩ := nth_of (l := l) h
    exact ⟨v, by simpa using hv, hk⟩
theorem cut_of {α : Type} : ∀ {l : List α} {o n : Nat} {K : List α → Prop}, cut l o n K → ∃ r, r.length = n ∧ (∀ j, j < n → r[j]? = l[o + j]?) ∧ r = (l.drop o).take n ∧ o + n ≤ l.length ∧ K r
  | l, 0, 0, K, h => ⟨[], rfl, fun j hj => by omega, by simp, by simp, by cases l <;> exact h⟩
  | [], 0, n + 1, K, h => h.elim
  | [], o + 1, 0, K, h => h.elim
  | [], o + 1, n + 1, K, h => h.elim
  | a :: l, 0, n + 1, K, h => by
    obtain ⟨r, h1, h2, h3, h4, hk⟩ := cut_of (l := l) (o := 0) (n := n) h
    refine ⟨a :: r, by simp [h1], ?_, by simp [h3], by simp; omega, hk⟩
    intro j hj
    cases j with
    | zero => simp
    | succ j => simpa using h2 j (by omega)
  | a :: l, o + 1, n, K, h => by
    have h' : cut l o n K := by cases n <;> exact h
    obtain ⟨r, h1, h2, h3, h4, hk⟩ := cut_of (l := l) (o := o) (n := n) h'
    refine ⟨r, h1, ?_, by simpa using h3, by simp; omega, hk⟩
    intro j hj
    rw [h2 j hj, show o + 1 + j = (o + j) + 1 from by omega, List.getElem?_cons_succ]
theorem getK_of {h : List Fam} {f x : Nat} {K : Ck → Prop} (hk : getK h f x K) : K (get h f x) := by
  obtain ⟨m, hm, hk⟩ := nth_of hk
  unfold get
  rw [hm]
  unfold Fam.atK at hk
  cases m with
  | one q => cases x with
    | zero => exact hk
    | succ x => exact hk.elim
  | many g => exact hk.of
theorem sameK_of {k l : IntKind} {A : Prop} (h : sameK k l A) : k = l ∧ A := by
  unfold sameK at h
  split at h
  · rename_i hb
    refine ⟨?_, h⟩
    have := Nat.eq_of_beq_eq_true hb
    cases k <;> cases l <;> first | rfl | (simp [kNat] at this)
  · exact h.elim
theorem wrap_in64 {x : Int} (h : In64 x) : IntKind.i64.wrap x = x := by
  unfold In64 at h
  have := IntWalk.i64_in x h
  exact this
end Go.X
namespace Go.X
variable {β : Nm} {s : S} {a : Act} {w : World} {P : Program} {tb : Tb}
def C.keyOf : C → Option (Nat × Nat)
  | .p f x _ => some (f, x)
  | .pe f x _ _ _ => some (f, x)
  | _ => none
theorem place_add (β : Nm) (f x o j : Nat) : (place β f x o).add j = place β f x (o + j) := by
  unfold Addr.add place
  split <;> simp_all; omega
def At (β : Nm) (w : World) (A : Addr) (l : List C) : Prop := ∀ (j : Nat) (v : C), l[j]? = some v → w.cell? (A.add j) = some (v.ren β)
theorem cell_at {b o : Nat} {cur : Array Value} {e : Nat} {fz : Nat × Nat} (h : w.heap[b]? = some (.cells cur e fz)) : w.cell? ⟨b, o, none⟩ = cur[o]? := by
  simp [World.cell?, h]
theorem holds_cells {f x : Nat} {own : Bool} {l : List C} (h : (Ck.cells own l).holds β w (β f x)) (o : Nat) : At β w (place β f x o) (l.drop o) := by
  obtain ⟨cur, e, fz, hb, hc, _⟩ := h
  intro j v hv
  rw [place_add]
  unfold place
  rw [cell_at hb]
  rw [List.getElem?_drop] at hv
  exact hc _ _ hv
theorem holds_row {f x : Nat} {own k : Bool} {e z n c : Nat} {g : Nat → List C} (h : (Ck.row own k e z n c g).holds β w (β f x)) {i : Nat} (hi : i < n) (j : Nat) : At β w (place β f x (i * z + j)) ((g i).drop j) := by
  obtain ⟨hnc, _, _, _, hblk⟩ := h
  obtain ⟨cur, te, fz, hb, hc, _⟩ := hblk (by omega)
  intro q v hv
  rw [place_add]
  unfold place
  rw [cell_at hb]
  rw [List.getElem?_drop] at hv
  have := hc i hi _ _ hv
  rw [← this]
  congr 1
  omega
theorem shOf_struct {u : TypeDesc} {fl} (h : shOf P u = .struct fl) : ∃ fs, u = .struct fs ∧ fl = fs.toList.map fun f => (f.offset, f.type, P.cellsOf f.type) := by
  cases u <;> simp [shOf] at h
  exact ⟨_, rfl, h.symm⟩
theorem shOf_array {u : TypeDesc} {n e} (h : shOf P u = .array n e) : u = .array n e := by
  cases u <;> simp [shOf] at h
  rw [h.1, h.2]
theorem shOf_slice {u : TypeDesc} {e} (h : shOf P u = .slice e) : u = .slice e := by
  cases u <;> simp [shOf] at h
  rw [h]
theorem shOf_str {u : TypeDesc} (h : shOf P u = .str) : u = .string := by
  cases u <;> simp [shOf] at h
  rfl
theorem shOf_bool {u : TypeDesc} (h : shOf P u = .bool) : u = .bool := by
  cases u <;> simp [shOf] at h
  rfl
theorem shOf_int {u : TypeDesc} {k} (h : shOf P u = .int k) : u = .int k := by
  cases u <;> simp [shOf] at h
  rw [h]
theorem shOf_ptr {u : TypeDesc} (h : shOf P u = .ptr) : ∃ e, u = .pointer e := by
  cases u <;> simp [shOf] at h
  exact ⟨_, rfl⟩
theorem shOf_map {u : TypeDesc} {k e} (h : shOf P u = .map k e) : u = .map k e := by
  cases u <;> simp [shOf] at h
  rw [h.1, h.2]
theorem loadVar_of {t : Nat} {i : TypeInfo} {u : TypeDesc} {d : Td} (hi : P.info? t = some i) (hu : P.underlying t = some u) (hs : d.size = i.size) (hsh : d.sh = shOf P u)
    {A : Addr} {l : List C} {o : Nat} {K : T → Prop} (h : loadAt d l o K) : ∃ v : T, (∀ w, At β w A (l.drop o) → (loadVar t A).run P w = .ok (v.ren β) w) ∧ K v := by
  have agg : ∀ w, At β w A (l.drop o) → ∀ r : List C, r.length = d.size → r = (l.drop o).take d.size → (isAgg t).run P w = .ok true w → (loadVar t A).run P w = .ok ((T.a r).ren β) w := by
    intro w hA r h1 h3 hag
    have hl := run_loadCells_list (P := P) w A (r.map (C.ren β)) (by
      intro j v hv
      rw [List.getElem?_map] at hv
      obtain ⟨c, hc, rfl⟩ := Option.map_eq_some_iff.1 hv
      apply hA
      rw [h3, List.getElem?_take] at hc
      split at hc
      · exact hc
      · cases hc)
    rw [List.length_map, h1, hs] at hl
    simp only [loadVar, Sem.run_bind, hag, Result.andThen_ok, if_true, sizeOf, typeInfo, run_program, hi, Sem.run_pure, hl]
    rfl
  have one : ∀ w, At β w A (l.drop o) → ∀ v : C, l[o]? = some v → (isAgg t).run P w = .ok false w → (loadVar t A).run P w = .ok ((T.c v).ren β) w := by
    intro w hA v hv hag
    have hc := hA 0 v (by simpa [List.getElem?_drop] using hv)
    have e0 : A.add 0 = A := by simp [Addr.add]
    rw [e0] at hc
    simp only [loadVar, Sem.run_bind, hag, Result.andThen_ok, Bool.false_eq_true, if_false, run_load, hc]
    rfl
  unfold loadAt at h
  split at h
  · rename_i fl hd
    obtain ⟨fs, rfl, _⟩ := shOf_struct (hsh.symm.trans hd)
    obtain ⟨r, h1, _, h3, _, hk⟩ := cut_of h
    exact ⟨.a r, fun w hA => agg w hA r h1 h3 (by simp [isAgg, run_underlying hu]), hk⟩
  · rename_i n e hd
    have := shOf_array (hsh.symm.trans hd)
    subst this
    obtain ⟨r, h1, _, h3, _, hk⟩ := cut_of h
    exact ⟨.a r, fun w hA => agg w hA r h1 h3 (by simp [isAgg, run_underlying hu]), hk⟩
  · rename_i hn1 hn2
    obtain ⟨v, hv, hk⟩ := nth_of h
    refine ⟨.c v, fun w hA => one w hA v hv ?_, hk⟩
    have : (match u with | .struct _ => true | .array _ _ => true | _ => false) = false := by
      cases u <;> first | rfl | (exfalso; exact hn1 _ (hsh.trans rfl)) | (exfalso; exact hn2 _ _ (hsh.trans rfl))
    simp only [isAgg, Sem.run_bind, run_underlying hu, Result.andThen_ok]
    cases u <;> simp_all
theorem loadVar_agg {t : Nat} {i : TypeInfo} {m e : Nat} (hi : P.info? t = some i) (hu : P.underlying t = some (.array m e)) {A : Addr} {r : List C} (hr : r.length = i.size) {w : World} (hA : At β w A r) : (loadVar t A).run P w = .ok ((T.a r).ren β) w := by
  have hl := run_loadCells_list (P := P) w A (r.map (C.ren β)) (by
    intro j v hv
    rw [List.getElem?_map] at hv
    obtain ⟨c, hc, rfl⟩ := Option.map_eq_some_iff.1 hv
    exact hA j c hc)
  rw [List.length_map, hr] at hl
  simp only [loadVar, Sem.run_bind, show (isAgg t).run P w = .ok true w by simp [isAgg, run_underlying hu], Result.andThen_ok, if_true, sizeOf, typeInfo, run_program, hi, Sem.run_pure, hl]
  rfl
theorem flatR_length {g : Nat → List C} {z n : Nat} (hg : ∀ i, i < n → (g i).length = z) : ∀ (m e : Nat), e + m ≤ n → (flatR g e m).length = m * z
  | 0, _, _ => by simp [flatR]
  | m + 1, e, h => by
    rw [flatR, List.length_append, hg e (by omega), flatR_length hg m (e + 1) (by omega), Nat.add_mul]
    omega
theorem flatR_get {g : Nat → List C} {z n : Nat} (hg : ∀ i, i < n → (g i).length = z) : ∀ (m e q : Nat) (v : C), e + m ≤ n → (flatR g e m)[q]? = some v → ∃ i j, i < m ∧ q = i * z + j ∧ (g (e + i))[j]? = some v
  | 0, _, _, _, _, h => by simp [flatR] at h
  | m + 1, e, q, v, hn, h => by
    have hz := hg e (by omega)
    rw [flatR] at h
    by_cases hq : q < z
    · rw [List.getElem?_append_left (by omega)] at h
      exact ⟨0, q, by omega, by omega, h⟩
    · rw [List.getElem?_append_right (by omega), hz] at h
      obtain ⟨i, j, h1, h2, h3⟩ := flatR_get hg m (e + 1) (q - z) v (by omega) h
      exact ⟨i + 1, j, by omega, by rw [Nat.add_mul]; omega, by rwa [show e + (i + 1) = e + 1 + i by omega]⟩
theorem flatR_mem {g : Nat → List C} : ∀ {m e : Nat} {v : C}, v ∈ flatR g e m → ∃ i, i < m ∧ v ∈ g (e + i)
  | 0, _, _, h => by simp [flatR] at h
  | m + 1, e, v, h => by
    rw [flatR, List.mem_append] at h
    rcases h with h | h
    · exact ⟨0, by omega, h⟩
    · obtain ⟨i, h1, h2⟩ := flatR_mem h
      exact ⟨i + 1, by omega, by rwa [show e + (i + 1) = e + 1 + i by omega]⟩
theorem holds_flat {f x : Nat} {own k : Bool} {te z n c : Nat} {g : Nat → List C} (h : (Ck.row own k te z n c g).holds β w (β f x)) {e m : Nat} (hm : e + m ≤ n) : At β w (place β f x (e * z)) (flatR g e m) := by
  intro q v hv
  obtain ⟨i, j, h1, rfl, h3⟩ := flatR_get (n := n) (fun i hi => h.2.2.2.1 i hi) m e q v hm hv
  have := holds_row h (i := e + i) (by omega) 0 j v (by simpa using h3)
  rw [place_add] at this ⊢
  rw [show e * z + (i * z + j) = (e + i) * z + 0 + j by rw [Nat.add_mul]; omega]
  exact this
theorem load_of (hv : Valid tb P) {t : Nat} {v : C} {K : T → Prop} (h : load tb s t v K) :
    ∃ f x, (v.keyOf = some (f, x)) ∧ ∃ r : T, (∀ w, (get s.h f x).holds β w (β f x) → (Instr.loadAt t (v.ren β)).run P w = .ok (r.ren β) w) ∧ K r := by
  obtain ⟨d, hd, h⟩ := td_of hv h
  obtain ⟨i, u, hi, hu, hs, _, hsh, _⟩ := Td.of_spec hd
  cases v with
  | p f x o =>
    have h := getK_of h
    refine ⟨f, x, rfl, ?_⟩
    split at h
    · rename_i own l hg
      obtain ⟨r, hr, hk⟩ := loadVar_of (β := β) (A := place β f x o) hi hu hs hsh h
      refine ⟨r, fun w hc => ?_, hk⟩
      rw [hg] at hc
      simp [Instr.loadAt, Instr.sureAddr, C.ren, hr w (holds_cells hc o)]
    · exact h.elim
  | pe f x z e j =>
    have h := getK_of h
    refine ⟨f, x, rfl, ?_⟩
    split at h
    · rename_i own k e' z' n c g hg
      obtain ⟨rfl, h⟩ := h
      unfold loadRow at h
      split at h
      · obtain ⟨hlt, h⟩ := h
        obtain ⟨r, hr, hk⟩ := loadVar_of (β := β) (A := place β f x (e * z' + j)) hi hu hs hsh h
        refine ⟨r, fun w hc => ?_, hk⟩
        rw [hg] at hc
        simp [Instr.loadAt, Instr.sureAddr, C.ren, hr w (holds_row hc hlt j)]
      · split at h
        · rename_i m et hd2
          obtain ⟨⟨rfl, hem, hmz⟩, hk⟩ := h
          have := shOf_array (hsh.symm.trans hd2)
          subst this
          refine ⟨_, fun w hc => ?_, hk⟩
          rw [hg] at hc
          have hl := flatR_length (n := n) (fun i hi => hc.2.2.2.1 i hi) m e hem
          have := loadVar_agg (P := P) hi hu (r := flatR g e m) (by rw [hl, hmz, hs]) (holds_flat hc hem)
          simp [Instr.loadAt, Instr.sureAddr, C.ren, this]
        · exact h.elim
    · exact h.elim
  | _ => exact h.elim
theorem arith_of {k : IntKind} {x : Int} {K : T → Prop} (h : arith k x K) : K (.c (.i k (k.wrap x))) := by
  unfold arith at h
  split at h
  · rw [wrap_in64 h.1]; exact h.2
  · exact h
theorem tl_beq (a b : ByteArray) : (a.toList == b.toList) = decide (a = b) := by
  by_cases h : a = b
  · subst h; simp
  · have : a.toList ≠ b.toList := fun e => h (by
      rw [ByteArray.toList_eq, ByteArray.toList_eq] at e
      cases a; cases b; congr 1; exact Array.toList_inj.1 e)
    simp [h, this]
theorem eqIn_bool {t : Nat} (hu : P.underlying t = some .bool) (d : Nat) (a b : Bool) : (Op.equalIn (d + 1) t (.bool a) (.bool b)).run P w = .ok (a == b) w := by
  simp only [Op.equalIn, Sem.run_bind, run_underlying hu, Result.andThen_ok, Sem.run_pure]
theorem eqIn_ptr {t e : Nat} (hu : P.underlying t = some (.pointer e)) (d : Nat) (y : Option Addr) : (Op.equalIn (d + 1) t (.pointer none) (.pointer y)).run P w = .ok y.isNone w := by
  simp only [Op.equalIn, Sem.run_bind, run_underlying hu, Result.andThen_ok, Sem.run_pure]
theorem eqIn_ptr' {t e : Nat} (hu : P.underlying t = some (.pointer e)) (d : Nat) (y : Addr) : (Op.equalIn (d + 1) t (.pointer (some y)) (.pointer none)).run P w = .ok false w := by
  simp only [Op.equalIn, Sem.run_bind, run_underlying hu, Result.andThen_ok, Sem.run_pure]
theorem eqIn_slice {t e : Nat} (hu : P.underlying t = some (.slice e)) (d : Nat) (y : Option Addr) (n c : Nat) : (Op.equalIn (d + 1) t (.slice y n c) (.slice none 0 0)).run P w = .ok y.isNone w := by
  cases y <;> simp only [Op.equalIn, Sem.run_bind, run_underlying hu, Result.andThen_ok, Sem.run_pure] <;> rfl
theorem eqIn_map {t k e : Nat} (hu : P.underlying t = some (.map k e)) (d : Nat) (y : Option Nat) : (Op.equalIn (d + 1) t (.map y) (.map none)).run P w = .ok y.isNone w := by
  cases y <;> simp only [Op.equalIn, Sem.run_bind, run_underlying hu, Result.andThen_ok, Sem.run_pure] <;> rfl
theorem cellEq_of {x y : C} {K : Bool → Prop} (h : cellEq x y K) {t : Nat} {dsh : Sh} (hb : dsh = .bool) {u : TypeDesc} (hu : P.underlying t = some u) (hsh : dsh = shOf P u)
    (hx : x.isB = true) : ∃ r : Bool, (∀ w, (Op.equal t (x.ren β) (y.ren β)).run P w = .ok r w) ∧ K r := by
  have := shOf_bool (hsh.symm.trans hb)
  subst this
  have key : ∀ a b : Bool, ∀ w, (Op.equal t (.bool a) (.bool b)).run P w = .ok (a == b) w := by
    intro a b w
    exact eqIn_bool hu 9999 a b
  cases x <;> simp [C.isB] at hx <;> cases y <;> first | exact h.elim | (refine ⟨_, key _ _, ?_⟩; simpa [cellEq] using h)
theorem known_of {op : BinOp} {r : Bool} {K : T → Prop} (h : known op r K) :
    (op = .eql ∧ ∃ c, K (.c c) ∧ ∀ β, c.ren β = .bool r) ∨ (op = .neq ∧ ∃ c, K (.c c) ∧ ∀ β, c.ren β = .bool (!r)) := by
  unfold known at h
  split at h
  · exact .inl ⟨rfl, _, h, fun _ => rfl⟩
  · exact .inl ⟨rfl, _, h, fun _ => rfl⟩
  · exact .inr ⟨rfl, _, h, fun _ => rfl⟩
  · exact .inr ⟨rfl, _, h, fun _ => rfl⟩
  · exact h.elim
def plainV : Value → Bool
  | .nilIface => false
  | .agg _ => false
  | _ => true
theorem C.ren_plain (c : C) : plainV (c.ren β) = true := by
  cases c <;> first | rfl | (unfold C.ren; simp only; split <;> rfl)
theorem eqGuard_val (op : BinOp) (t : Nat) (xo yo : Operand) (x y : Value) (hx : plainV x = true) : (eqGuard op t xo yo x y).run P w = .ok () w := by
  unfold eqGuard
  cases x <;> first | (cases hx; done) | (simp <;> split <;> rfl) | simp
theorem eqGuard_none (op : BinOp) (t : Nat) (xo yo : Operand) (x y : C) : (eqGuard op t xo yo (x.ren β) (y.ren β)).run P w = .ok () w := eqGuard_val op t xo yo _ _ x.ren_plain
end Go.X
namespace Go.X
variable {β : Nm} {s : S} {a : Act} {w : World} {P : Program} {tb : Tb}
theorem eqlRun {w : World} (op : BinOp) (h : op = .eql ∨ op = .neq) (t : Nat) (x y : Value) (r : Bool) (hr : (Op.equal t x y).run P w = .ok r w)
    (hb : binOp op t x y = (if op = .eql then (do pure (.bool (← Op.equal t x y))) else (do pure (.bool (!(← Op.equal t x y)))))) :
    (binOp op t x y).run P w = .ok (.bool (if op = .eql then r else !r)) w := by
  rw [hb]
  rcases h with rfl | rfl <;> simp [hr]
theorem known_run {op : BinOp} {r : Bool} {K : T → Prop} {t : Nat} {x y : Value} (h : known op r K) (hr : ∀ w, (Op.equal t x y).run P w = .ok r w)
    (hb : ∀ op, op = .eql ∨ op = .neq → binOp op t x y = (if op = .eql then (do pure (.bool (← Op.equal t x y))) else (do pure (.bool (!(← Op.equal t x y)))))) :
    ∃ v : T, (∀ w, (binOp op t x y).run P w = .ok (v.ren β) w) ∧ K v := by
  rcases known_of h with ⟨rfl, c, hk, hc⟩ | ⟨rfl, c, hk, hc⟩
  · exact ⟨.c c, fun w => by rw [eqlRun _ (.inl rfl) t x y r (hr w) (hb _ (.inl rfl))]; simp [T.ren, hc], hk⟩
  · exact ⟨.c c, fun w => by rw [eqlRun _ (.inr rfl) t x y r (hr w) (hb _ (.inr rfl))]; simp [T.ren, hc], hk⟩
theorem bool_run {op : BinOp} {K : T → Prop} {t : Nat} {x y : C} {u : TypeDesc} (hu : P.underlying t = some u) (hsh : Sh.bool = shOf P u)
    (hx : x.isB = true)
    (h : match op with | .eql => cellEq x y fun r => K (.c (.b r)) | .neq => cellEq x y fun r => K (.c (.b (!r))) | _ => False) :
    ∃ v : T, (∀ w, (binOp op t (x.ren β) (y.ren β)).run P w = .ok (v.ren β) w) ∧ K v := by
  have hb : ∀ op, op = .eql ∨ op = .neq → binOp op t (x.ren β) (y.ren β) = (if op = .eql then (do pure (.bool (← Op.equal t (x.ren β) (y.ren β)))) else (do pure (.bool (!(← Op.equal t (x.ren β) (y.ren β)))))) := by
    intro op ho
    rcases ho with rfl | rfl <;> cases x <;> simp [C.isB] at hx <;> rfl
  split at h
  · obtain ⟨r, hr, hk⟩ := cellEq_of (β := β) h rfl hu hsh hx
    exact ⟨_, fun w => by rw [eqlRun _ (.inl rfl) t _ _ r (hr w) (hb _ (.inl rfl))]; rfl, hk⟩
  · obtain ⟨r, hr, hk⟩ := cellEq_of (β := β) h rfl hu hsh hx
    exact ⟨_, fun w => by rw [eqlRun _ (.inr rfl) t _ _ r (hr w) (hb _ (.inr rfl))]; rfl, hk⟩
  · exact h.elim
theorem intBin_of {op : BinOp} {k : IntKind} {x y : Int} {K : T → Prop} {t : Nat} (h : intBin op k x y K) : ∃ v : T, (∀ w, (binOp op t (.int k x) (.int k y)).run P w = .ok (v.ren β) w) ∧ K v := by
  cases op <;> first
    | exact h.elim
    | exact ⟨_, fun w => by simp [binOp, Op.intArith]; rfl, arith_of h⟩
    | exact ⟨_, fun w => by simp [binOp, Op.intDiv, h.1]; rfl, arith_of h.2⟩
    | exact ⟨_, fun w => by simp [binOp, Op.intDiv, h.1]; rfl, h.2⟩
    | exact ⟨_, fun w => by simp [binOp, Op.intBits]; rfl, h⟩
    | exact ⟨_, fun w => by simp [binOp, Op.intCmp]; rfl, h⟩
theorem intOp_of {op : BinOp} {k k' : IntKind} {x y : Int} {K : T → Prop} {t : Nat} (h : intOp op k k' x y K) : ∃ v : T, (∀ w, (binOp op t (.int k x) (.int k' y)).run P w = .ok (v.ren β) w) ∧ K v := by
  unfold intOp at h
  split at h
  · exact ⟨_, fun w => by simp [binOp, Op.shift, show ¬ y < 0 from by omega]; rfl, h.2⟩
  · exact ⟨_, fun w => by simp [binOp, Op.shift, show ¬ y < 0 from by omega]; rfl, h.2⟩
  · obtain ⟨rfl, h1⟩ := sameK_of h
    exact intBin_of h1
theorem strBin_of {op : BinOp} {x y : ByteArray} {K : T → Prop} {t : Nat} (h : strBin op x y K) : ∃ v : T, (∀ w, (binOp op t (.string x) (.string y)).run P w = .ok (v.ren β) w) ∧ K v := by
  cases op <;> first
    | exact h.elim
    | (refine ⟨_, fun w => ?_, h.2⟩
       have h1 := h.1
       have h2 : ¬ (((x.size + y.size : Nat) : Int) > IntKind.i64.max) := by
         have : IntKind.i64.max = 9223372036854775807 := by rfl
         omega
       simp only [binOp, Op.stringOp, if_neg h2]
       rfl)
    | exact ⟨_, fun w => by simp [binOp, Op.stringOp, tl_beq]; rfl, h⟩
theorem bin_of {op : BinOp} {t : Nat} {x y : C} {K : T → Prop} {u : TypeDesc} (hu : P.underlying t = some u) (h : bin op (shOf P u) x y K) :
    ∃ v : T, (∀ w, (binOp op t (x.ren β) (y.ren β)).run P w = .ok (v.ren β) w) ∧ K v := by
  have hb : ∀ (p q : Option Addr) op, op = .eql ∨ op = .neq → (p = none ∨ q = none) → binOp op t (.pointer p) (.pointer q) = (if op = .eql then (do pure (.bool (← Op.equal t (.pointer p) (.pointer q)))) else (do pure (.bool (!(← Op.equal t (.pointer p) (.pointer q)))))) := by
    intro p q op ho _
    rcases ho with rfl | rfl <;> rfl
  unfold bin at h
  split at h
  · exact intOp_of h
  · exact strBin_of h
  · split at h
    · obtain ⟨e, rfl⟩ := shOf_ptr (by assumption)
      exact known_run h (fun w => eqIn_ptr hu 9999 none) (fun op ho => hb _ _ op ho (.inl rfl))
    · exact h.elim
  · split at h
    · obtain ⟨e, rfl⟩ := shOf_ptr (by assumption)
      exact known_run h (fun w => eqIn_ptr' hu 9999 _) (fun op ho => hb _ _ op ho (.inr rfl))
    · exact h.elim
  · split at h
    · obtain ⟨e, rfl⟩ := shOf_ptr (by assumption)
      exact known_run h (fun w => eqIn_ptr hu 9999 (some _)) (fun op ho => hb _ _ op ho (.inl rfl))
    · exact h.elim
  · split at h
    · have := shOf_slice (by assumption)
      subst this
      exact known_run h (fun w => eqIn_slice hu 9999 none 0 0) (fun op ho => by rcases ho with rfl | rfl <;> rfl)
    · exact h.elim
  · split at h
    · have := shOf_map (by assumption)
      subst this
      exact known_run h (fun w => eqIn_map hu 9999 none) (fun op ho => by rcases ho with rfl | rfl <;> rfl)
    · exact h.elim
  · split at h
    · have := shOf_map (by assumption)
      subst this
      exact known_run h (fun w => eqIn_map hu 9999 (some _)) (fun op ho => by rcases ho with rfl | rfl <;> rfl)
    · exact h.elim
  · split at h
    · rename_i hd hx
      exact bool_run hu hd.symm hx h
    · exact h.elim
end Go.X
namespace Go.X
variable {β : Nm} {s : S} {a : Act} {w : World} {P : Program} {tb : Tb}
theorem slice_run {t e : Nat} (hu : P.underlying t = some (.slice e)) {i : TypeInfo} (hi : P.info? e = some i) (A : Option Addr) (n c : Nat) (lo hi' mx : Option Value) {l h m : Nat}
    (hb : (Instr.sliceBounds true n c lo hi' mx).run P w = .ok (l, h, m) w) :
    (Instr.sliceAt t (.slice A n c) lo hi' mx).run P w = .ok (.slice (if m = l then A else A.map (·.add (l * i.size))) (h - l) (m - l)) w := by
  simp only [Instr.sliceAt, Sem.run_bind, run_underlying hu, Result.andThen_ok, Instr.slice, hb, sizeOf, typeInfo, run_program, hi, Sem.run_pure]
theorem sb (k : IntKind) (i : Int) (y : Nat) (code : BoundsCode) (h0 : 0 ≤ i) (h1 : i ≤ y) : (Instr.sliceBound (.int k i) y code).run P w = .ok i.toNat w := run_sliceBound (P := P) w k i y code h0 h1
def adr (β : Nm) (f x z o : Nat) : Option Addr :=
  match (β f x).2.2 with
  | .live => some (place β f x (o * z))
  | .nil => none
  | .odd q => some (Addr.add ⟨(β f x).1, (β f x).2.1, some q⟩ (o * z))
theorem sl_adr (f x z o n c : Nat) : (C.sl f x z o n c).ren β = .slice (adr β f x z o) n c := by
  simp only [C.ren, adr]
  cases (β f x).2.2 <;> rfl
theorem sl_ren (f x z o l h m : Nat) {i : TypeInfo} (hz : i.size = z) :
    Value.slice (if m = l then adr β f x z o else (adr β f x z o).map (·.add (l * i.size))) (h - l) (m - l) = (C.sl f x z (if m = l then o else o + l) (h - l) (m - l)).ren β := by
  rw [sl_adr]
  unfold adr
  by_cases hm : m = l
  · simp [hm]
  · simp only [if_neg hm]
    cases (β f x).2.2 with
    | nil => rfl
    | live =>
      simp only [Option.map_some, place_add, hz]
      congr 3
      rw [Nat.add_mul]
    | odd q =>
      simp only [Option.map_some, hz, Nat.add_mul]
      congr 2
      unfold Addr.add
      by_cases h1 : o * z = 0
      · by_cases h2 : l * z = 0 <;> simp [h1, h2]
      · by_cases h2 : l * z = 0
        · simp [h1, h2]
        · simp [h1, h2, Nat.add_assoc]
theorem sliceV_gen {t : Nat} {i : TypeInfo} {f x z o n c : Nat} (hz : i.size = z) {fl : Bool} {X : Value} (hrun : ∀ (w : World) (lo hi' mx : Option Value) (l h m : Nat), (Instr.sliceBounds fl n c lo hi' mx).run P w = .ok (l, h, m) w →
      (Instr.sliceAt t X lo hi' mx).run P w = .ok (.slice (if m = l then adr β f x z o else (adr β f x z o).map (·.add (l * i.size))) (h - l) (m - l)) w) {lo hi' mx : Option C} {K : T → Prop} (h : sliceV f x z o n c lo hi' mx K) :
    ∃ v : T, (∀ w, (Instr.sliceAt t X (lo.map (C.ren β)) (hi'.map (C.ren β)) (mx.map (C.ren β))).run P w = .ok (v.ren β) w) ∧ K v := by
  unfold sliceV at h
  split at h
  · split at h
    · rename_i kl l kh h'
      obtain ⟨⟨h0, h1, h2⟩, hk⟩ := h
      refine ⟨_, fun w => ?_, hk⟩
      have hb : (Instr.sliceBounds fl n c (some (.int kl l)) (some (.int kh h')) none).run P w = .ok (l.toNat, h'.toNat, c) w := by
        simp only [Instr.sliceBounds, Sem.run_bind, Sem.run_pure, Result.andThen_ok, sb (P := P) (w := w) kh h' c _ (by omega) h2, sb (P := P) (w := w) kl l h'.toNat _ h0 (by omega)]
      refine (hrun _ _ _ _ _ _ _ hb).trans ?_
      rw [sl_ren _ _ _ _ _ _ _ hz]; rfl
    · rename_i kl l
      obtain ⟨⟨h0, h1⟩, hk⟩ := h
      refine ⟨_, fun w => ?_, hk⟩
      have hb : (Instr.sliceBounds fl n c (some (.int kl l)) none none).run P w = .ok (l.toNat, n, c) w := by
        simp only [Instr.sliceBounds, Sem.run_bind, Sem.run_pure, Result.andThen_ok, sb (P := P) (w := w) kl l n _ h0 h1]
      refine (hrun _ _ _ _ _ _ _ hb).trans ?_
      rw [sl_ren _ _ _ _ _ _ _ hz]; rfl
    · rename_i kh h'
      obtain ⟨⟨h0, h1⟩, hk⟩ := h
      refine ⟨_, fun w => ?_, hk⟩
      have hb : (Instr.sliceBounds fl n c none (some (.int kh h')) none).run P w = .ok (0, h'.toNat, c) w := by
        simp only [Instr.sliceBounds, Sem.run_bind, Sem.run_pure, Result.andThen_ok, sb (P := P) (w := w) kh h' c _ h0 h1]
      refine (hrun _ _ _ _ _ _ _ hb).trans ?_
      rw [sl_ren _ _ _ _ _ _ _ hz]
      simp [T.ren]
    · refine ⟨_, fun w => ?_, h⟩
      have hb : (Instr.sliceBounds fl n c none none none).run P w = .ok (0, n, c) w := by
        simp only [Instr.sliceBounds, Sem.run_bind, Sem.run_pure, Result.andThen_ok]
      refine (hrun _ _ _ _ _ _ _ hb).trans ?_
      rw [sl_ren _ _ _ _ _ _ _ hz]
      simp [T.ren]
    · exact h.elim
  · rename_i km m
    split at h
    · rename_i kl l kh h'
      obtain ⟨⟨h0, h1, h2, h3⟩, hk⟩ := h
      refine ⟨_, fun w => ?_, hk⟩
      have hb : (Instr.sliceBounds fl n c (some (.int kl l)) (some (.int kh h')) (some (.int km m))).run P w = .ok (l.toNat, h'.toNat, m.toNat) w := by
        simp only [Instr.sliceBounds, Sem.run_bind, Sem.run_pure, Result.andThen_ok, sb (P := P) (w := w) km m c _ (by omega) h3, sb (P := P) (w := w) kh h' m.toNat _ (by omega) (by omega), sb (P := P) (w := w) kl l h'.toNat _ h0 (by omega)]
      refine (hrun _ _ _ _ _ _ _ hb).trans ?_
      rw [sl_ren _ _ _ _ _ _ _ hz]; rfl
    · rename_i kh h'
      obtain ⟨⟨h0, h1, h2⟩, hk⟩ := h
      refine ⟨_, fun w => ?_, hk⟩
      have hb : (Instr.sliceBounds fl n c none (some (.int kh h')) (some (.int km m))).run P w = .ok (0, h'.toNat, m.toNat) w := by
        simp only [Instr.sliceBounds, Sem.run_bind, Sem.run_pure, Result.andThen_ok, sb (P := P) (w := w) km m c _ (by omega) h2, sb (P := P) (w := w) kh h' m.toNat _ h0 (by omega)]
      refine (hrun _ _ _ _ _ _ _ hb).trans ?_
      rw [sl_ren _ _ _ _ _ _ _ hz]
      simp [T.ren]
    · exact h.elim
  · exact h.elim
theorem sliceV_of {t e : Nat} (hu : P.underlying t = some (.slice e)) {i : TypeInfo} (hi : P.info? e = some i) {f x z o n c : Nat} (hz : i.size = z) {lo hi' mx : Option C} {K : T → Prop} (h : sliceV f x z o n c lo hi' mx K) :
    ∃ v : T, (∀ w, (Instr.sliceAt t ((C.sl f x z o n c).ren β) (lo.map (C.ren β)) (hi'.map (C.ren β)) (mx.map (C.ren β))).run P w = .ok (v.ren β) w) ∧ K v := by
  rw [sl_adr]
  exact sliceV_gen hz (fun w lo hi' mx l h m hb => slice_run hu hi _ n c lo hi' mx hb) h
theorem sliceArr_of {t e n : Nat} (hu : P.underlying t = some (.array n e)) {i : TypeInfo} (hi : P.info? e = some i) {f x z o : Nat} (hz : i.size = z) (hflag : (β f x).2.2 = .live) {lo hi' mx : Option C} {K : T → Prop} (h : sliceV f x z o n n lo hi' mx K) :
    ∃ v : T, (∀ w, (Instr.sliceAt t ((C.pe f x z o 0).ren β) (lo.map (C.ren β)) (hi'.map (C.ren β)) (mx.map (C.ren β))).run P w = .ok (v.ren β) w) ∧ K v := by
  refine sliceV_gen (fl := false) hz (fun w lo hi' mx l h m hb => ?_) h
  have e1 : (C.pe f x z o 0).ren β = .pointer (some (place β f x (o * z))) := rfl
  have e2 : adr β f x z o = some (place β f x (o * z)) := by unfold adr; rw [hflag]
  rw [e1, e2]
  simp only [Instr.sliceAt, Sem.run_bind, run_underlying hu, Result.andThen_ok, Instr.sureAddr, hb, sizeOf, typeInfo, run_program, hi, Sem.run_pure]
  congr 2
  by_cases hm : m = l
  · simp [hm]
  · simp [hm]
theorem sliceN_of {t e : Nat} (hu : P.underlying t = some (.slice e)) {i : TypeInfo} (hi : P.info? e = some i) {lo hi' mx : Option C} {K : T → Prop} (h : sliceN lo hi' mx K) :
    ∃ v : T, (∀ w, (Instr.sliceAt t (C.nils.ren β) (lo.map (C.ren β)) (hi'.map (C.ren β)) (mx.map (C.ren β))).run P w = .ok (v.ren β) w) ∧ K v := by
  unfold sliceN at h
  split at h
  · obtain ⟨rfl, hk⟩ := h
    refine ⟨_, fun w => ?_, hk⟩
    have hb : (Instr.sliceBounds true 0 0 (some (.int ‹_› 0)) none none).run P w = .ok (0, 0, 0) w := by
      simp only [Instr.sliceBounds, Sem.run_bind, Sem.run_pure, Result.andThen_ok, sb (P := P) (w := w) _ 0 0 _ (by omega) (by omega)]
      simp
    refine (slice_run hu hi _ 0 0 _ _ _ hb).trans ?_
    simp [T.ren, C.ren]
  · obtain ⟨rfl, hk⟩ := h
    refine ⟨_, fun w => ?_, hk⟩
    have hb : (Instr.sliceBounds true 0 0 none (some (.int ‹_› 0)) none).run P w = .ok (0, 0, 0) w := by
      simp only [Instr.sliceBounds, Sem.run_bind, Sem.run_pure, Result.andThen_ok, sb (P := P) (w := w) _ 0 0 _ (by omega) (by omega)]
      simp
    refine (slice_run hu hi _ 0 0 _ _ _ hb).trans ?_
    simp [T.ren, C.ren]
  · obtain ⟨rfl, rfl, hk⟩ := h
    rename_i kl kh
    refine ⟨_, fun w => ?_, hk⟩
    have hb : (Instr.sliceBounds true 0 0 (some (.int kl 0)) (some (.int kh 0)) none).run P w = .ok (0, 0, 0) w := by
      simp only [Instr.sliceBounds, Sem.run_bind, Sem.run_pure, Result.andThen_ok, sb (P := P) (w := w) kh 0 0 _ (by omega) (by omega), sb (P := P) (w := w) kl 0 (Int.toNat 0) _ (by omega) (by simp)]
      simp
    refine (slice_run hu hi _ 0 0 _ _ _ hb).trans ?_
    simp [T.ren, C.ren]
  · refine ⟨_, fun w => ?_, h⟩
    have hb : (Instr.sliceBounds true 0 0 none none none).run P w = .ok (0, 0, 0) w := by
      simp only [Instr.sliceBounds, Sem.run_bind, Sem.run_pure, Result.andThen_ok]
    refine (slice_run hu hi _ 0 0 _ _ _ hb).trans ?_
    simp [T.ren, C.ren]
  · exact h.elim
theorem slice_run_s {t : Nat} (hu : P.underlying t = some .string) (b : ByteArray) (lo hi' : Option Value) {l h m : Nat}
    (hb : (Instr.sliceBounds false b.size b.size lo hi' none).run P w = .ok (l, h, m) w) :
    (Instr.sliceAt t (.string b) lo hi' none).run P w = .ok (.string (b.extract l h)) w := by
  simp [Instr.sliceAt, run_underlying hu, Instr.slice, hb]
theorem sliceS_of {t : Nat} (hu : P.underlying t = some .string) {b : ByteArray} {lo hi' : Option C} {K : T → Prop} (h : sliceS b lo hi' K) :
    ∃ v : T, (∀ w, (Instr.sliceAt t (.string b) (lo.map (C.ren β)) (hi'.map (C.ren β)) none).run P w = .ok (v.ren β) w) ∧ K v := by
  unfold sliceS at h
  split at h
  · rename_i kl l kh h'
    obtain ⟨⟨h0, h1, h2⟩, hk⟩ := h
    refine ⟨_, fun w => ?_, hk⟩
    have hb : (Instr.sliceBounds false b.size b.size (some (.int kl l)) (some (.int kh h')) none).run P w = .ok (l.toNat, h'.toNat, b.size) w := by
      simp only [Instr.sliceBounds, Sem.run_bind, Sem.run_pure, Result.andThen_ok, sb (P := P) (w := w) kh h' b.size _ (by omega) h2, sb (P := P) (w := w) kl l h'.toNat _ h0 (by omega)]
    exact slice_run_s hu b _ _ hb
  · rename_i kl l
    obtain ⟨⟨h0, h1⟩, hk⟩ := h
    refine ⟨_, fun w => ?_, hk⟩
    have hb : (Instr.sliceBounds false b.size b.size (some (.int kl l)) none none).run P w = .ok (l.toNat, b.size, b.size) w := by
      simp only [Instr.sliceBounds, Sem.run_bind, Sem.run_pure, Result.andThen_ok, sb (P := P) (w := w) kl l b.size _ h0 h1]
    exact slice_run_s hu b _ _ hb
  · rename_i kh h'
    obtain ⟨⟨h0, h1⟩, hk⟩ := h
    refine ⟨_, fun w => ?_, hk⟩
    have hb : (Instr.sliceBounds false b.size b.size none (some (.int kh h')) none).run P w = .ok (0, h'.toNat, b.size) w := by
      simp only [Instr.sliceBounds, Sem.run_bind, Sem.run_pure, Result.andThen_ok, sb (P := P) (w := w) kh h' b.size _ h0 h1]
    exact slice_run_s hu b _ _ hb
  · refine ⟨_, fun w => ?_, h⟩
    have hb : (Instr.sliceBounds false b.size b.size none none none).run P w = .ok (0, b.size, b.size) w := by
      simp only [Instr.sliceBounds, Sem.run_bind, Sem.run_pure, Result.andThen_ok]
    exact slice_run_s hu b _ _ hb
  · exact h.elim
theorem caps_of : ∀ {vs : List T} {K : List (Nat × Nat × Nat) → Prop}, caps vs K → ∃ r, vs.map (T.ren β) = r.map (fun q => Value.pointer (some (place β q.1 q.2.1 q.2.2))) ∧ K r
  | [], K, h => ⟨[], rfl, h⟩
  | .c (.p f x o) :: vs, K, h => by
    obtain ⟨r, hr, hk⟩ := caps_of (vs := vs) h
    exact ⟨(f, x, o) :: r, by simp [hr, T.ren, C.ren], hk⟩
  | .a _ :: _, K, h => h.elim
  | .t _ :: _, K, h => h.elim
  | .c .tt :: _, K, h => h.elim
  | .c .ff :: _, K, h => h.elim
  | .c (.b _) :: _, K, h => h.elim
  | .c (.i _ _) :: _, K, h => h.elim
  | .c (.s _) :: _, K, h => h.elim
  | .c .nilp :: _, K, h => h.elim
  | .c (.pe _ _ _ _ _) :: _, K, h => h.elim
  | .c .nils :: _, K, h => h.elim
  | .c (.sl _ _ _ _ _ _) :: _, K, h => h.elim
  | .c .nilm :: _, K, h => h.elim
  | .c (.mp _ _) :: _, K, h => h.elim
  | .c .nilf :: _, K, h => h.elim
  | .c (.fn _ _) :: _, K, h => h.elim
  | .c (.bf _ _) :: _, K, h => h.elim
theorem intsK_of : ∀ {l : List C} {K : List (IntKind × Int) → Prop}, intsK l K → ∃ q, l = q.map (fun p => C.i p.1 p.2) ∧ K q
  | [], K, h => ⟨[], rfl, h⟩
  | c :: l, K, h => by
    cases c <;> first | exact (h : False).elim | skip
    obtain ⟨q, hq, hk⟩ := intsK_of (l := l) h
    exact ⟨_ :: q, by rw [hq]; rfl, hk⟩
theorem firsts_of : ∀ {l : List T} {K : List (List (IntKind × Int)) → Prop}, firsts l K → ∃ q, l = q.map (fun r => T.a (r.map fun p => C.i p.1 p.2)) ∧ K q
  | [], K, h => ⟨[], rfl, h⟩
  | t :: l, K, h => by
    cases t <;> first | exact (h : False).elim | skip
    obtain ⟨q, hq, h2⟩ := intsK_of h
    obtain ⟨r, hr, hk⟩ := firsts_of (l := l) h2
    exact ⟨q :: r, by rw [hq, hr]; rfl, hk⟩
theorem br_of {v : C} {A B : Prop} (h : br v A B) : ∃ b, v.ren β = .bool b ∧ (b = true → A) ∧ (b = false → B) := by
  cases v <;> first | exact h.elim | skip
  · exact ⟨true, rfl, fun _ => h, fun e => by cases e⟩
  · exact ⟨false, rfl, fun e => (by cases e), fun _ => h⟩
  · exact ⟨_, rfl, h⟩
theorem toT_of {e : E} {K : T → Prop} (h : e.toT K) : ∃ v : T, e.ren β = v.ren β ∧ K v := by
  cases e with
  | c v => exact ⟨.c v, rfl, h⟩
  | a l => exact ⟨.a l, rfl, h⟩
theorem len_of {t : Nat} {u : TypeDesc} (hu : P.underlying t = some u) {v : C} {K : T → Prop} (h : lenOf v (shOf P u) K) (ty : Nat) :
    ∃ r : T, (∀ w, (Builtin.len_ #[t] ty #[v.ren β]).run P w = .ok (r.ren β) w) ∧ K r := by
  unfold lenOf at h
  split at h
  · have := shOf_str (by assumption)
    subst this
    exact ⟨_, fun w => by simp [Builtin.len_, run_underlying hu, C.ren, T.ren, goInt], h⟩
  · have := shOf_slice (by assumption)
    subst this
    exact ⟨_, fun w => by simp [Builtin.len_, run_underlying hu, C.ren, T.ren, goInt], h⟩
  · have := shOf_slice (by assumption)
    subst this
    exact ⟨_, fun w => by rw [sl_adr]; simp [Builtin.len_, run_underlying hu, C.ren, T.ren, goInt], h⟩
  · exact h.elim
theorem part_of {t : Nat} {i : TypeInfo} {u : TypeDesc} {d : Td} (hi : P.info? t = some i) (hu : P.underlying t = some u) (hs : d.size = i.size) (hsh : d.sh = shOf P u)
    {l : List C} {o : Nat} {K : T → Prop} (h : loadAt d l o K) : ∃ v : T, (∀ w, (part t (renL β l) o).run P w = .ok (v.ren β) w) ∧ K v := by
  have agg : ∀ w, ∀ r : List C, r = (l.drop o).take d.size → (isAgg t).run P w = .ok true w → (part t (renL β l) o).run P w = .ok ((T.a r).ren β) w := by
    intro w r h3 hag
    simp only [part, Sem.run_bind, hag, Result.andThen_ok, if_true, sizeOf, typeInfo, run_program, hi, Sem.run_pure]
    congr 2
    unfold renL
    apply Array.toList_inj.1
    rw [Array.toList_extract, List.extract_eq_take_drop, h3]
    simp [hs, List.map_take, List.map_drop]
  have one : ∀ w, ∀ v : C, l[o]? = some v → (isAgg t).run P w = .ok false w → (part t (renL β l) o).run P w = .ok ((T.c v).ren β) w := by
    intro w v hv hag
    have : (renL β l)[o]? = some (v.ren β) := by simp [renL, hv]
    simp only [part, Sem.run_bind, hag, Result.andThen_ok, Bool.false_eq_true, if_false, this, Sem.run_pure]
    rfl
  unfold loadAt at h
  split at h
  · rename_i fl hd
    obtain ⟨fs, rfl, _⟩ := shOf_struct (hsh.symm.trans hd)
    obtain ⟨r, h1, _, h3, _, hk⟩ := cut_of h
    exact ⟨.a r, fun w => agg w r h3 (by simp [isAgg, run_underlying hu]), hk⟩
  · rename_i n e hd
    have := shOf_array (hsh.symm.trans hd)
    subst this
    obtain ⟨r, h1, _, h3, _, hk⟩ := cut_of h
    exact ⟨.a r, fun w => agg w r h3 (by simp [isAgg, run_underlying hu]), hk⟩
  · rename_i hn1 hn2
    obtain ⟨v, hv, hk⟩ := nth_of h
    refine ⟨.c v, fun w => one w v hv ?_, hk⟩
    have : (match u with | .struct _ => true | .array _ _ => true | _ => false) = false := by
      cases u <;> first | rfl | (exfalso; exact hn1 _ (hsh.trans rfl)) | (exfalso; exact hn2 _ _ (hsh.trans rfl))
    simp only [isAgg, Sem.run_bind, run_underlying hu, Result.andThen_ok]
    cases u <;> simp_all
theorem part_one {t o : Nat} {u : TypeDesc} {l : List C} {v : C} {w : World} (hu : P.underlying t = some u) (hn : u = .bool ∨ u = .string ∨ ∃ k, u = .int k) (hv : l[o]? = some v) :
    (part t (renL β l) o).run P w = .ok (v.ren β) w := by
  have h1 : (renL β l)[o]? = some (v.ren β) := by simp [renL, hv]
  have hag : (isAgg t).run P w = .ok false w := by
    simp only [isAgg, Sem.run_bind, run_underlying hu, Result.andThen_ok]
    rcases hn with rfl | rfl | ⟨k, rfl⟩ <;> rfl
  simp only [part, Sem.run_bind, hag, Result.andThen_ok, Bool.false_eq_true, if_false, h1, Sem.run_pure]
theorem eqB_of {x y : C} {K : Bool → Prop} (hx : x.isB = true) (h : cellEq x y K) {t : Nat} (hu : P.underlying t = some .bool) :
    ∃ r : Bool, (∀ d w, (Op.equalIn (d + 1) t (x.ren β) (y.ren β)).run P w = .ok r w) ∧ K r := by
  have key : ∀ a b : Bool, ∀ d w, (Op.equalIn (d + 1) t (.bool a) (.bool b)).run P w = .ok (a == b) w := fun a b d w => eqIn_bool hu d a b
  cases x <;> simp [C.isB] at hx <;> cases y <;> first | exact h.elim | (refine ⟨_, key _ _, ?_⟩; simpa [cellEq] using h)
theorem eqSh_of {sh : Sh} {x y : C} {K : Bool → Prop} (h : eqSh sh x y K) {t : Nat} {u : TypeDesc} (hu : P.underlying t = some u) (hs : sh = shOf P u) :
    ∃ r : Bool, (∀ d w, (Op.equalIn (d + 1) t (x.ren β) (y.ren β)).run P w = .ok r w) ∧ K r := by
  unfold eqSh at h
  split at h
  · obtain ⟨e1, h1⟩ := sameK_of h
    obtain ⟨e2, h2⟩ := sameK_of h1
    subst e1
    subst e2
    have : u = .int _ := shOf_int hs.symm
    subst this
    exact ⟨_, fun d w => run_equalIn_int w d t _ _ _ _ hu, by simpa [BEq.beq] using h2⟩
  · have := shOf_str hs.symm
    subst this
    exact ⟨_, fun d w => by simp only [C.ren]; rw [run_equalIn_string w d t _ _ hu, tl_beq], h⟩
  · have := shOf_bool hs.symm
    subst this
    split at h
    · exact eqB_of (by assumption) h hu
    · exact h.elim
  · exact h.elim
theorem allEq_of {fs : List Field} {o : Nat} {shs : List Sh} (hf : flatSh P fs o = some shs) {l m l' m' : List C} (hl : l'.drop o = l) (hm : m'.drop o = m) {K : Bool → Prop} (h : allEq shs l m K) :
    ∃ r : Bool, (∀ d w, (Op.eqFields (d + 1) (renL β l') (renL β m') fs).run P w = .ok r w) ∧ K r := by
  induction fs generalizing o shs l m K with
  | nil =>
    cases hf
    cases l <;> cases m <;> first | exact h.elim | exact ⟨true, fun d w => rfl, h⟩
  | cons f r ih =>
    unfold flatSh at hf
    split at hf
    · cases hf
    · rename_i hb
      obtain ⟨hb1, hb2⟩ := Bool.or_eq_false_iff.1 hb
      have hnm : f.name ≠ "_" := by simpa using hb1
      have hof : f.offset = o := Nat.eq_of_beq_eq_true (by simpa using hb2)
      have fin : ∀ {u : TypeDesc} {sh : Sh} {rest : List Sh}, P.underlying f.type = some u → sh = shOf P u → (u = .bool ∨ u = .string ∨ ∃ k, u = .int k) → flatSh P r (o + 1) = some rest → shs = sh :: rest →
          ∃ r' : Bool, (∀ d w, (Op.eqFields (d + 1) (renL β l') (renL β m') (f :: r)).run P w = .ok r' w) ∧ K r' := by
        intro u sh rest hu hsh hn hr hs
        subst hs
        match l, m, h, hl, hm with
        | a :: l1, b :: m1, h, hl, hm =>
          have hla : l'[o]? = some a := by rw [← Nat.add_zero o, ← List.getElem?_drop, hl]; rfl
          have hmb : m'[o]? = some b := by rw [← Nat.add_zero o, ← List.getElem?_drop, hm]; rfl
          obtain ⟨x, hx, h⟩ := eqSh_of (β := β) h hu hsh
          obtain ⟨y, hy, h⟩ := ih hr (l := l1) (m := m1) (by rw [← List.drop_drop, hl]; rfl) (by rw [← List.drop_drop, hm]; rfl) h
          refine ⟨x && y, fun d w => ?_, h⟩
          rw [Op.eqFields, if_pos hnm, hof]
          simp only [Sem.run_bind, part_one hu hn hla, part_one hu hn hmb, Result.andThen_ok, hx d w]
          cases x
          · simp
          · simp only [Bool.not_true, Bool.false_eq_true, if_false, hy d w, Bool.true_and]
      split at hf
      · split at hf
        · cases hf
          exact fin (by assumption) rfl (.inr (.inr ⟨_, rfl⟩)) (by assumption) rfl
        · cases hf
      · split at hf
        · cases hf
          exact fin (by assumption) rfl (.inl rfl) (by assumption) rfl
        · cases hf
      · split at hf
        · cases hf
          exact fin (by assumption) rfl (.inr (.inl rfl)) (by assumption) rfl
        · cases hf
      · cases hf
theorem flatEl_of {e : Nat} {sh : Sh} (h : flatEl P e = some sh) : P.cellsOf e = 1 ∧ ∃ u, P.underlying e = some u ∧ sh = shOf P u ∧ (u = .bool ∨ u = .string ∨ ∃ k, u = .int k) := by
  unfold flatEl at h
  split at h
  · cases h
  · rename_i hb
    have hb := Nat.eq_of_beq_eq_true hb
    split at h <;> first | (cases h; done) | (rename_i hu; cases h; exact ⟨hb, _, hu, rfl, by simp⟩)
theorem allEqI_of {e : Nat} {sh : Sh} (he : flatEl P e = some sh) {l' m' : List C} : ∀ {n o : Nat} {l m : List C} (_ : l'.drop o = l) (_ : m'.drop o = m) {K : Bool → Prop} (_ : allEq (List.replicate n sh) l m K),
    ∃ r : Bool, (∀ d w, (Op.eqItems (d + 1) e 1 (renL β l') (renL β m') (List.range' o n)).run P w = .ok r w) ∧ K r
  | 0, o, l, m, _, _, K, h => by
    cases l <;> cases m <;> first | exact h.elim | exact ⟨true, fun d w => rfl, h⟩
  | n + 1, o, l, m, hl, hm, K, h => by
    obtain ⟨_, u, hu, hsh, hn⟩ := flatEl_of he
    rw [List.replicate_succ] at h
    match l, m, h, hl, hm with
    | a :: l1, b :: m1, h, hl, hm =>
      have hla : l'[o]? = some a := by rw [← Nat.add_zero o, ← List.getElem?_drop, hl]; rfl
      have hmb : m'[o]? = some b := by rw [← Nat.add_zero o, ← List.getElem?_drop, hm]; rfl
      obtain ⟨x, hx, h⟩ := eqSh_of (β := β) h hu hsh
      obtain ⟨y, hy, h⟩ := allEqI_of he (n := n) (o := o + 1) (l := l1) (m := m1) (by rw [← List.drop_drop, hl]; rfl) (by rw [← List.drop_drop, hm]; rfl) h
      refine ⟨x && y, fun d w => ?_, h⟩
      rw [List.range'_succ, Op.eqItems]
      simp only [Nat.mul_one, Sem.run_bind, part_one hu hn hla, part_one hu hn hmb, Result.andThen_ok, hx d w]
      cases x
      · simp
      · simp only [Bool.not_true, Bool.false_eq_true, if_false, hy d w, Bool.true_and]
theorem binA_of {op : BinOp} {t : Nat} {d : Td} {l m : List C} {K : T → Prop} (hd : Td.of P t = some d) (h : binA op d l m K) (xo yo : Operand) :
    ∃ v : T, (∀ w, (binOp op t (.agg (renL β l)) (.agg (renL β m))).run P w = .ok (v.ren β) w ∧ (eqGuard op t xo yo (.agg (renL β l)) (.agg (renL β m))).run P w = .ok () w) ∧ K v := by
  obtain ⟨i, u, _, hu, _, _, hsh, _⟩ := Td.of_spec hd
  have he := Td.of_eqs hd hu
  unfold binA at h
  split at h
  · exact h.elim
  · rename_i s r hs
    rw [hs] at he
    unfold eqShs at he
    split at he
    · rename_i n e
      split at he
      · cases he
      · rename_i hb
        obtain ⟨hb2, _⟩ := Bool.or_eq_false_iff.1 hb
        split at he
        · rename_i sh hfl
          obtain ⟨x, hx, hk⟩ := allEqI_of (β := β) hfl (l' := l) (m' := m) (n := n) (o := 0) rfl rfl (he ▸ h)
          have hc := (flatEl_of hfl).1
          obtain ⟨i', hi'⟩ : ∃ i', P.info? e = some i' := by
            unfold Program.cellsOf at hc
            cases hi' : P.info? e with
            | none => rw [hi'] at hc; simp at hc
            | some i' => exact ⟨i', rfl⟩
          have heq : ∀ w, (Op.equalIn 10000 t (.agg (renL β l)) (.agg (renL β m))).run P w = .ok x w := fun w => by
            rw [show (10000 : Nat) = 9999 + 1 from rfl, run_equalIn_array w 9999 _ _ hu hi', hc, List.range_eq_range']
            exact hx 9998 w
          cases op <;> first
            | exact hk.elim
            | exact ⟨.c (.b x), fun w => ⟨by rw [run_eql_struct w, heq]; rfl, run_eqGuard_agg w _ t _ _ _ _ hb2⟩, hk⟩
            | exact ⟨.c (.b (!x)), fun w => ⟨by rw [run_neq_struct w, heq]; rfl, run_eqGuard_agg w _ t _ _ _ _ hb2⟩, hk⟩
        · cases he
    · rename_i fs
      split at he
      · cases he
      · rename_i hb
        obtain ⟨hb1, hb2⟩ := Bool.or_eq_false_iff.1 hb
        split at he
        · rename_i l0 hfl
          obtain ⟨x, hx, hk⟩ := allEq_of (β := β) hfl (l' := l) (m' := m) rfl rfl (he ▸ h)
          have hfo : P.fieldsOf t = fs := by simp [Program.fieldsOf, hu]
          have heq : ∀ w, (Op.equalIn 10000 t (.agg (renL β l)) (.agg (renL β m))).run P w = .ok x w := fun w => by
            rw [show (10000 : Nat) = 9999 + 1 from rfl, run_equalIn_struct w 9999 t _ _ (hfo.symm ▸ hu) hb1, hfo]
            exact hx 9998 w
          cases op <;> first
            | exact hk.elim
            | exact ⟨.c (.b x), fun w => ⟨by rw [run_eql_struct w, heq]; rfl, run_eqGuard_agg w _ t _ _ _ _ hb2⟩, hk⟩
            | exact ⟨.c (.b (!x)), fun w => ⟨by rw [run_neq_struct w, heq]; rfl, run_eqGuard_agg w _ t _ _ _ _ hb2⟩, hk⟩
        · cases he
    · cases he
end Go.X
set_option linter.constructorNameAsVariable false
namespace Go.X
variable {β : Nm} {s : S} {a : Act} {w : World} {P : Program} {tb : Tb}
def readsB (s : S) (b : Builtin) (args : List Operand) : Option (Nat × Nat) :=
  match b with
  | .len => match args with
    | [x] => match x with
      | .tmp i => match find s.t i with
        | some (.c v) => match v with
          | .mp f x => some (f, x)
          | _ => none
        | _ => none
      | _ => none
    | _ => none
  | _ => none
def reads (s : S) (op : Op) : Option (Nat × Nat) :=
  match op with
  | .load _ x => match x with
    | .tmp i => match find s.t i with
      | some (.c v) => v.keyOf
      | _ => none
    | _ => none
  | .call { callee := .builtin b, args, .. } => readsB s b args.toList
  | .convert _ _ x => match x with
    | .tmp i => match find s.t i with
      | some (.c v) => match v with
        | .sl f x _ _ _ _ => some (f, x)
        | _ => none
      | _ => none
    | _ => none
  | _ => none
theorem andV {x : Sem Value} {v : Value} (h : x.run P w = .ok v w) : (do pure (Next.value (← x)) : Sem Next).run P w = .ok (.value v) w := by
  simp [h]
theorem pick_of {b : Bool} {x y : Value} {c : Value} (h : c = .bool b) : (do pure (Next.value (if ← asBool c then x else y)) : Sem Next).run P w = .ok (.value (if b then x else y)) w := by
  subst h
  simp [asBool]
theorem fieldAt_of {t : Nat} {fs : Array Field} (hu : P.underlying t = some (.struct fs)) {i : Nat} {off ft sz : Nat} (hn : (fs.toList.map fun f => (f.offset, f.type, P.cellsOf f.type))[i]? = some (off, ft, sz)) (h0 : sz ≠ 0) (A : Addr) :
    (Instr.fieldAt t (.pointer (some A)) i).run P w = .ok (.pointer (some (A.add off))) w := by
  rw [List.getElem?_map] at hn
  obtain ⟨fd, hfd, he⟩ := Option.map_eq_some_iff.1 hn
  simp only [Prod.mk.injEq] at he
  obtain ⟨rfl, rfl, rfl⟩ := he
  have hfd' : fs[i]? = some fd := by rw [← Array.getElem?_toList]; exact hfd
  have hsz : (sizeOf fd.type).run P w = .ok (P.cellsOf fd.type) w := by
    unfold sizeOf typeInfo
    unfold Program.cellsOf at h0 ⊢
    cases hi : P.info? fd.type with
    | none => rw [hi] at h0; simp at h0
    | some i => simp [hi]
  simp [Instr.fieldAt, run_underlying hu, hfd', Instr.sureAddr, fieldPlace, hsz, h0]
theorem fieldAt_p {t : Nat} {fs : Array Field} (hu : P.underlying t = some (.struct fs)) {i : Nat} {off ft sz : Nat} (hn : (fs.toList.map fun f => (f.offset, f.type, P.cellsOf f.type))[i]? = some (off, ft, sz)) (h0 : sz ≠ 0) (f x o : Nat) :
    (Instr.fieldAt t ((C.p f x o).ren β) i).run P w = .ok ((T.c (C.p f x (o + off))).ren β) w := by
  have := fieldAt_of (w := w) hu hn h0 (place β f x o)
  rw [place_add] at this
  exact this
theorem fieldAt_pe {t : Nat} {fs : Array Field} (hu : P.underlying t = some (.struct fs)) {i : Nat} {off ft sz : Nat} (hn : (fs.toList.map fun f => (f.offset, f.type, P.cellsOf f.type))[i]? = some (off, ft, sz)) (h0 : sz ≠ 0) (f x z e j : Nat) :
    (Instr.fieldAt t ((C.pe f x z e j).ren β) i).run P w = .ok ((T.c (C.pe f x z e (j + off))).ren β) w := by
  have := fieldAt_of (w := w) hu hn h0 (place β f x (e * z + j))
  rw [place_add, Nat.add_assoc] at this
  exact this
theorem index_s {t : Nat} (hu : P.underlying t = some .string) (b : ByteArray) (k : IntKind) (n : Int) (h0 : 0 ≤ n) (h1 : n < b.size) :
    (Instr.index t ((C.s b).ren β) ((C.i k n).ren β)).run P w = .ok ((T.c (C.i .u8 (b.get! n.toNat).toNat)).ren β) w := by
  have hlt : n.toNat < b.size := by omega
  have hg : b[n.toNat]? = some (b.get! n.toNat) := by
    rw [getElem?_pos b n.toNat hlt]
    congr 1
    have : n.toNat < b.data.size := hlt
    show b.data[n.toNat] = b.data[n.toNat]!
    rw [getElem!_pos b.data n.toNat this]
  simp [Instr.index, run_underlying hu, C.ren, T.ren, asIntOf, h0, hg]
theorem index_sl {t e : Nat} (hu : P.underlying t = some (.slice e)) {i' : TypeInfo} (hi' : P.info? e = some i') {f x z o n c : Nat} (hz : i'.size = z) {own k : Bool} {e' z' n' c' : Nat} {g : Nat → List C} {w0 : World} (hc : (Ck.row own k e' z' n' c' g).holds β w0 (β f x))
    {kk : IntKind} {j : Int} (h0 : 0 ≤ j) (h1 : j < n) (h2 : o + j.toNat < n') (w : World) : (Instr.indexAt t ((C.sl f x z o n c).ren β) ((C.i kk j).ren β)).run P w = .ok ((T.c (.pe f x z (o + j.toNat) 0)).ren β) w := by
  obtain ⟨hnc, hnil, _⟩ := hc
  rw [sl_adr]
  have hflag : (β f x).2.2 = .live := by
    exact Fl.live_of fun hb => by have := hnil hb; omega
  unfold adr
  rw [hflag]
  simp [Instr.indexAt, run_underlying hu, C.ren, T.ren, asIntOf, h0, h1, sizeOf, typeInfo, hi', place_add, hz, Nat.add_mul]
theorem index_pe {t e n : Nat} (hu : P.underlying t = some (.array n e)) {i' : TypeInfo} (hi' : P.info? e = some i') {f x z o : Nat} (hz : i'.size = z)
    {kk : IntKind} {j : Int} (h0 : 0 ≤ j) (h1 : j < n) (w : World) : (Instr.indexAt t ((C.pe f x z o 0).ren β) ((C.i kk j).ren β)).run P w = .ok ((T.c (.pe f x z (o + j.toNat) 0)).ren β) w := by
  simp [Instr.indexAt, run_underlying hu, C.ren, T.ren, asIntOf, h0, h1, sizeOf, typeInfo, hi', place_add, hz, Nat.add_mul, Instr.sureAddr]
theorem index_pj {t e n : Nat} (hu : P.underlying t = some (.array n e)) {i' : TypeInfo} (hi' : P.info? e = some i') {f x z o q : Nat}
    {kk : IntKind} {j : Int} (h0 : 0 ≤ j) (h1 : j < n) (w : World) : (Instr.indexAt t ((C.pe f x z o q).ren β) ((C.i kk j).ren β)).run P w = .ok ((T.c (.pe f x z o (q + j.toNat * i'.size))).ren β) w := by
  simp [Instr.indexAt, run_underlying hu, C.ren, T.ren, asIntOf, h0, h1, sizeOf, typeInfo, hi', place_add, Instr.sureAddr, Nat.add_assoc]
theorem index_p {t e n : Nat} (hu : P.underlying t = some (.array n e)) {i' : TypeInfo} (hi' : P.info? e = some i') {f x o : Nat}
    {kk : IntKind} {j : Int} (h0 : 0 ≤ j) (h1 : j < n) (w : World) : (Instr.indexAt t ((C.p f x o).ren β) ((C.i kk j).ren β)).run P w = .ok ((T.c (.p f x (o + j.toNat * i'.size))).ren β) w := by
  simp [Instr.indexAt, run_underlying hu, C.ren, T.ren, asIntOf, h0, h1, sizeOf, typeInfo, hi', place_add, Instr.sureAddr]
theorem foldl_push (ns : List Int) : ∀ b : ByteArray, (ns.foldl (fun r n => r.push (UInt8.ofNat n.toNat)) b).data = b.data ++ (ns.map fun n => UInt8.ofNat n.toNat).toArray := by
  induction ns with
  | nil => intro b; simp
  | cons n ns ih =>
    intro b
    rw [List.foldl_cons, ih]
    apply Array.toList_inj.1
    simp [ByteArray.push]
def numOf (l : List C) : Int :=
  match l with
  | [.i _ n] => n
  | _ => 0
theorem isU8_of {l : List C} (h : isU8 l = true) : l = [.i .u8 (numOf l)] ∧ byteOf l = UInt8.ofNat (numOf l).toNat := by
  unfold isU8 at h
  split at h
  · rename_i k n
    have := Nat.eq_of_beq_eq_true h
    cases k <;> simp [kNat] at this
    exact ⟨rfl, rfl⟩
  · cases h
theorem bytes_run {f x o n c : Nat} {own k : Bool} {e n' c' : Nat} {g : Nat → List C} (hc : (Ck.row own k e 1 n' c' g).holds β w (β f x)) (hn : o + n ≤ n') (hu : ∀ i, i < n → isU8 (g (o + i)) = true) :
    (Conv.bytesToString ((C.sl f x 1 o n c).ren β)).run P w = .ok (.string (bytesOf g o n)) w := by
  rw [sl_adr]
  by_cases h0 : n = 0
  · subst h0
    have e0 : bytesOf g o 0 = ByteArray.empty := congrArg ByteArray.mk (Array.eq_empty_of_size_eq_zero (by simp))
    rw [e0]
    unfold adr
    split
    · have := run_bytesToString (P := P) w (place β f x (o * 1)) 0 c [] (by
        have := run_loadCells_list (P := P) w (place β f x (o * 1)) [] (by simp)
        simpa using this)
      simpa using this
    · simp [Conv.bytesToString]
    · rename_i q _
      have := run_bytesToString (P := P) w (Addr.add ⟨(β f x).1, (β f x).2.1, some q⟩ (o * 1)) 0 c [] (by
        have := run_loadCells_list (P := P) w (Addr.add ⟨(β f x).1, (β f x).2.1, some q⟩ (o * 1)) [] (by simp)
        simpa using this)
      simpa using this
  · have hflag : (β f x).2.2 = .live := by
      exact Fl.live_of fun hb => by have := hc.2.1 hb; have := hc.1; omega
    have e1 : adr β f x 1 o = some (place β f x (o * 1)) := by unfold adr; rw [hflag]
    rw [e1]
    have hl : (loadCells (place β f x (o * 1)) n).run P w = .ok (((List.range n).map fun i => numOf (g (o + i))).map (Value.int .u8)).toArray w := by
      have := run_loadCells_list (P := P) w (place β f x (o * 1)) (((List.range n).map fun i => numOf (g (o + i))).map (Value.int .u8)) (by
        intro j v hv
        rw [List.getElem?_map, List.getElem?_map] at hv
        obtain ⟨y, hy, rfl⟩ := Option.map_eq_some_iff.1 hv
        obtain ⟨y', hy', rfl⟩ := Option.map_eq_some_iff.1 hy
        have hj : j < n ∧ y' = j := by
          rw [List.getElem?_eq_some_iff] at hy'
          obtain ⟨hj, e⟩ := hy'
          simp at hj e
          exact ⟨hj, e.symm⟩
        obtain ⟨hj, rfl⟩ := hj
        have h1 := holds_row hc (i := o + y') (by omega) 0 0 (.i .u8 (numOf (g (o + y')))) (by
          rw [List.drop_zero, (isU8_of (hu y' hj)).1]
          rfl)
        rw [place_add] at h1 ⊢
        simp only [Nat.mul_one, Nat.add_zero] at h1 ⊢
        exact h1)
      simpa using this
    rw [run_bytesToString w _ n c _ hl]
    congr 2
    have e2 : (bytesOf g o n).data = ((((List.range n).map fun i => numOf (g (o + i))).map fun n => UInt8.ofNat n.toNat)).toArray := by
      apply Array.toList_inj.1
      simp only [bytesOf, Array.toList_map, Array.toList_range, List.map_map]
      apply List.map_congr_left
      intro i hi
      exact (isU8_of (hu i (List.mem_range.1 hi))).2
    have := foldl_push (((List.range n).map fun i => numOf (g (o + i)))) ByteArray.empty
    rw [show ByteArray.empty.data = #[] from rfl, Array.empty_append, ← e2] at this
    exact congrArg ByteArray.mk this
theorem builtin_of (hv : Valid tb P) (ht : Tmps β s a) {b : Builtin} {args : List Operand} {ats : List Nat} {K : T → Prop} (h : builtinOp tb s b args ats K) (ty : Nat) (cs : Array Bool) :
    ∃ v : T, (∀ w, (∀ f x, readsB s b args = some (f, x) → (get s.h f x).holds β w (β f x)) → (builtin b ats.toArray ty cs (args.map a.eval).toArray).run P w = .ok (.value (v.ren β)) w) ∧ K v := by
  cases b with
  | len =>
    match args, ats, h with
    | [x], [t], h =>
      have h0 : evC s x fun v => td tb t fun d => match v with
        | .mp f y => getK s.h f y fun ck => match ck with
          | .map _ _ _ n _ => match d.sh with
            | .map _ _ => K (.c (.i .i64 n))
            | _ => False
          | _ => False
        | v => lenOf v d.sh K := h
      have key : ∀ v : C, a.eval x = v.ren β → (td tb t fun d => match v with
        | .mp f y => getK s.h f y fun ck => match ck with
          | .map _ _ _ n _ => match d.sh with
            | .map _ _ => K (.c (.i .i64 n))
            | _ => False
          | _ => False
        | v => lenOf v d.sh K) → (∀ f y, v = .mp f y → readsB s .len [x] = some (f, y)) → ∃ v : T, (∀ w, (∀ f x', readsB s .len [x] = some (f, x') → (get s.h f x').holds β w (β f x')) → (builtin .len [t].toArray ty cs ([x].map a.eval).toArray).run P w = .ok (.value (v.ren β)) w) ∧ K v := by
        intro v hx h hmp
        obtain ⟨d, hd, h⟩ := td_of hv h
        obtain ⟨i, u, hi, hu, hs, _, hsh, _⟩ := Td.of_spec hd
        rw [hsh] at h
        have other : lenOf v (shOf P u) K → ∃ v : T, (∀ w, (∀ f x', readsB s .len [x] = some (f, x') → (get s.h f x').holds β w (β f x')) → (builtin .len [t].toArray ty cs ([x].map a.eval).toArray).run P w = .ok (.value (v.ren β)) w) ∧ K v := by
          intro h
          obtain ⟨r, hr, hk⟩ := len_of (β := β) hu h ty
          refine ⟨r, fun w _ => ?_, hk⟩
          simp only [builtin, List.map_cons, List.map_nil, hx]
          exact andV (hr w)
        cases v with
        | mp f y =>
          have h1 := getK_of h
          clear h
          split at h1
          · rename_i w0 k ck n g hg
            split at h1
            · rename_i kt et hsm
              have hum := shOf_map hsm
              rw [hum] at hu
              refine ⟨_, fun w hw => ?_, h1⟩
              have hh := hw f y (hmp f y rfl)
              rw [hg] at hh
              obtain ⟨⟨es, hb, hsz, _⟩, _⟩ := hh
              simp only [builtin, List.map_cons, List.map_nil, hx]
              refine andV ?_
              simp [Builtin.len_, run_underlying hu, C.ren, T.ren, getObj, Sem.run, hb, hsz, goInt]
            · exact h1.elim
          · exact h1.elim
        | _ => exact other h
      cases x with
      | tmp i =>
        have h1 : lk s.t i fun v => match v with
          | .c r => td tb t fun d => match r with
            | .mp f y => getK s.h f y fun ck => match ck with
              | .map _ _ _ n _ => match d.sh with
                | .map _ _ => K (.c (.i .i64 n))
                | _ => False
              | _ => False
            | v => lenOf v d.sh K
          | _ => False := h0
        obtain ⟨u, hu, h2⟩ := lk_of h1
        cases u with
        | c v =>
          have hx : a.eval (.tmp i) = v.ren β := by have := ht.tm i _ hu; simp [Act.eval, this, T.ren]
          exact key v hx h2 (fun f y e => by subst e; simp [readsB, hu])
        | _ => exact h2.elim
      | const c =>
        unfold evC ev at h0
        simp only at h0
        split at h0
        · rename_i r hr
          refine key r (by simp [Act.eval, ofVal_ren hr β]) h0 (fun f y e => ?_)
          subst e
          unfold ofVal at hr
          split at hr <;> cases hr
        · exact h0.elim
      | func F => exact key (.fn F []) (by simp [Act.eval, C.ren]) h0 (fun f y e => by cases e)
      | global g => exact h0.elim
    | [], [], h | [], _ :: _, h | [_], [], h | _ :: _ :: _, [], h | [_], _ :: _ :: _, h | _ :: _ :: _, _ :: _, h => exact (h : False).elim
  | max =>
    match args, h with
    | [x, y], h =>
      obtain ⟨v, hx, h⟩ := evC_of ht h
      obtain ⟨u, hy, h⟩ := evC_of ht h
      split at h
      · rename_i m n
        refine ⟨_, fun w _ => ?_, h⟩
        simp only [builtin, List.map_cons, List.map_nil, hx, hy]
        refine andV ?_
        simp [Builtin.max_, Builtin.max2, C.ren, T.ren]
        split <;> omega
      · exact h.elim
    | [], h | [_], h | _ :: _ :: _ :: _, h => exact h.elim
  | min =>
    match args, h with
    | [x, y], h =>
      obtain ⟨v, hx, h⟩ := evC_of ht h
      obtain ⟨u, hy, h⟩ := evC_of ht h
      split at h
      · rename_i m n
        refine ⟨_, fun w _ => ?_, h⟩
        simp only [builtin, List.map_cons, List.map_nil, hx, hy]
        refine andV ?_
        simp [Builtin.min_, Builtin.min2, C.ren, T.ren]
        split <;> omega
      · exact h.elim
    | [], h | [_], h | _ :: _ :: _ :: _, h => exact h.elim
  | _ => exact h.elim
theorem evC_find (ht : Tmps β s a) {x : Operand} {K : C → Prop} (h : evC s x K) : ∃ v, a.eval x = v.ren β ∧ K v ∧ ((∃ i, x = .tmp i ∧ find s.t i = some (.c v)) ∨ ∀ f y z o n c, v ≠ .sl f y z o n c) := by
  cases x with
  | tmp i =>
    obtain ⟨v, hv, h1⟩ := lk_of (K := fun v => match v with | .c r => K r | _ => False) h
    cases v with
    | c r => exact ⟨r, by have := ht.tm i _ hv; simp [Act.eval, this, T.ren], h1, .inl ⟨i, rfl, hv⟩⟩
    | _ => exact h1.elim
  | const v =>
    obtain ⟨r, hr, hk⟩ := evC_of ht h
    clear hr hk r
    unfold evC ev at h
    simp only at h
    split at h
    · rename_i r hr
      refine ⟨r, (ofVal_ren hr β).symm, h, .inr ?_⟩
      intro f y z o n c e
      subst e
      unfold ofVal at hr
      split at hr <;> cases hr
    · exact h.elim
  | func f => exact ⟨.fn f [], by simp [Act.eval, C.ren], h, .inr (by intros; simp)⟩
  | global g => exact h.elim
theorem xpure_of (hv : Valid tb P) (ht : Tmps β s a) {w0 : World} (hst : Fits β s.h w0) {o : Oper} {K : T → Prop} (h : xpure tb s o.op K) :
    ∃ v : T, (∀ w, (∀ f x, reads s o.op = some (f, x) → (get s.h f x).holds β w (β f x)) → (execOp a.eval o).run P w = .ok (.value (v.ren β)) w) ∧ K v := by
  obtain ⟨dst, op, ty, pos, after, guard⟩ := o
  simp only at h
  cases op with
  | move x =>
    obtain ⟨v, hx, hk⟩ := ev_of ht h
    exact ⟨v, fun w _ => by simp [execOp, hx], hk⟩
  | assign x =>
    obtain ⟨v, hx, hk⟩ := ev_of ht h
    exact ⟨v, fun w _ => by simp [execOp, hx], hk⟩
  | pick q x y =>
    obtain ⟨c, hc, h⟩ := evC_of ht h
    obtain ⟨b, hb, h1, h2⟩ := br_of (β := β) h
    cases b with
    | true =>
      obtain ⟨v, hx, hk⟩ := ev_of ht (h1 rfl)
      exact ⟨v, fun w _ => by simp only [execOp]; rw [pick_of (hc.trans hb)]; simp [hx], hk⟩
    | false =>
      obtain ⟨v, hx, hk⟩ := ev_of ht (h2 rfl)
      exact ⟨v, fun w _ => by simp only [execOp]; rw [pick_of (hc.trans hb)]; simp [hx], hk⟩
  | load t x =>
    cases x with
    | tmp i =>
      have h0 : lk s.t i fun v => match v with | .c r => load tb s t r K | _ => False := h
      obtain ⟨u, hu, h1⟩ := lk_of h0
      cases u with
      | c v =>
        obtain ⟨f, y, hkey, r, hr, hk⟩ := load_of (β := β) hv h1
        refine ⟨r, fun w hw => ?_, hk⟩
        have hx : a.eval (.tmp i) = v.ren β := by have := ht.tm i _ hu; simp [Act.eval, this, T.ren]
        simp only [execOp, hx]
        exact andV (hr w (hw f y (by simp [reads, hu, hkey])))
      | _ => exact h1.elim
    | const v =>
      exfalso
      unfold xpure evC ev at h
      simp only at h
      split at h
      · rename_i r hr
        obtain ⟨f, y, hkey, _⟩ := load_of (β := β) hv h
        unfold ofVal at hr
        split at hr <;> first | (cases hr; cases hkey) | cases hr
      · exact h
    | func f =>
      exfalso
      have h1 : load tb s t (.fn f []) K := h
      obtain ⟨f, y, hkey, _⟩ := load_of (β := β) hv h1
      cases hkey
    | global g => exact h.elim
  | nilCheck x =>
    obtain ⟨v, hx, h⟩ := evC_of ht h
    cases v with
    | p f x o => exact ⟨_, fun w _ => by simp [execOp, hx, C.ren, T.ren], h⟩
    | pe f x z e j => exact ⟨_, fun w _ => by simp [execOp, hx, C.ren, T.ren], h⟩
    | _ => exact h.elim
  | binOp op t x y yt =>
    obtain ⟨v, hx, h⟩ := ev_of ht h
    obtain ⟨u, hy, h⟩ := ev_of ht h
    obtain ⟨d, hd, h⟩ := td_of hv h
    obtain ⟨i, ud, hi, hu, hs, _, hsh, _⟩ := Td.of_spec hd
    unfold binV at h
    split at h
    · rename_i f0 x0 z o n c h1 h2
      split at h
      · obtain rfl := shOf_slice (hsh.symm.trans (by assumption))
        have h := getK_of h
        have hh := hst.ck f0 x0
        split at h
        · rename_i hg
          rw [hg] at hh
          obtain ⟨_, hnil, _⟩ := hh
          have hA : (adr β f0 x0 z o).isNone = true → (β f0 x0).2.2 ≠ .live := by
            unfold adr
            cases (β f0 x0).2.2 <;> simp
          have he : ∀ w, (Op.equal t (.slice (adr β f0 x0 z o) n c) (.slice none 0 0)).run P w = .ok (adr β f0 x0 z o).isNone w := fun w => eqIn_slice hu 9999 _ n c
          replace hx : a.eval x = .slice (adr β f0 x0 z o) n c := hx.trans (sl_adr f0 x0 z o n c)
          replace hy : a.eval y = .slice none 0 0 := hy
          unfold nilK at h
          split at h
          · refine ⟨_, fun w _ => ?_, h (adr β f0 x0 z o).isNone (fun e => hnil (hA e))⟩
            simp only [execOp, hx, hy]
            refine andV ?_
            rw [Sem.run_bind, eqGuard_val _ _ _ _ _ _ rfl, Result.andThen_ok, eqlRun (P := P) .eql (.inl rfl) t _ _ _ (he w) rfl]
            rfl
          · refine ⟨_, fun w _ => ?_, h (!(adr β f0 x0 z o).isNone) (fun e => hnil (hA (by simpa using e)))⟩
            simp only [execOp, hx, hy]
            refine andV ?_
            rw [Sem.run_bind, eqGuard_val _ _ _ _ _ _ rfl, Result.andThen_ok, eqlRun (P := P) .neq (.inr rfl) t _ _ _ (he w) rfl]
            rfl
          · exact h.elim
        · exact h.elim
      · exact h.elim
    · rename_i v u _ h1 h2
      rw [hsh] at h
      obtain ⟨r, hr, hk⟩ := bin_of (β := β) hu h
      refine ⟨r, fun w _ => ?_, hk⟩
      replace hx : a.eval x = v.ren β := hx
      replace hy : a.eval y = u.ren β := hy
      simp only [execOp, hx, hy]
      refine andV ?_
      simp only [Sem.run_bind, eqGuard_none, Result.andThen_ok, hr w]
    · rename_i l m h1 h2
      obtain ⟨r, hr, hk⟩ := binA_of (β := β) hd h x y
      refine ⟨r, fun w _ => ?_, hk⟩
      replace hx : a.eval x = .agg (renL β l) := hx
      replace hy : a.eval y = .agg (renL β m) := hy
      simp only [execOp, hx, hy]
      refine andV ?_
      simp only [Sem.run_bind, (hr w).2, Result.andThen_ok, (hr w).1]
    · exact h.elim
  | unOp op t x =>
    obtain ⟨v, hx, h⟩ := evC_of ht h
    cases op with
    | not =>
      cases v with
      | tt => exact ⟨_, fun w _ => by simp [execOp, hx, C.ren, T.ren, Op.unary], h⟩
      | ff => exact ⟨_, fun w _ => by simp [execOp, hx, C.ren, T.ren, Op.unary], h⟩
      | b x => exact ⟨_, fun w _ => by simp [execOp, hx, C.ren, T.ren, Op.unary], h⟩
      | _ => exact h.elim
    | neg =>
      cases v with
      | i k n => exact ⟨_, fun w _ => by simp [execOp, hx, C.ren, T.ren, Op.unary, Op.intArith], arith_of h⟩
      | _ => exact h.elim
    | xor =>
      cases v with
      | i k n => exact ⟨_, fun w _ => by simp [execOp, hx, C.ren, T.ren, Op.unary, Op.intBits], h⟩
      | _ => exact h.elim
    | _ => exact h.elim
  | convert src dst x =>
    have h : evC s x fun v => td tb src fun ds => td tb dst fun d => match d.sh with
      | .int k => match v with
        | .i _ n => K (.c (.i k (k.wrap n)))
        | _ => False
      | .str => match v with
        | .s b => K (.c (.s b))
        | v => strOf s tb ds.sh v K
      | _ => False := h
    obtain ⟨v, hx, h, hfind⟩ := evC_find ht h
    obtain ⟨ds, hds, h⟩ := td_of hv h
    obtain ⟨is, us, _, hus, _, _, hshs, _⟩ := Td.of_spec hds
    obtain ⟨d, hd, h⟩ := td_of hv h
    obtain ⟨i, ud, hi, hu, hs, _, hsh, _⟩ := Td.of_spec hd
    split at h
    · have := shOf_int (hsh.symm.trans (by assumption))
      subst this
      split at h
      · refine ⟨_, fun w _ => ?_, h⟩
        simp only [execOp, hx]
        refine andV ?_
        simp [convert, run_underlying hus, run_underlying hu, C.ren, T.ren, Conv.intToInt]
      · exact h.elim
    · have := shOf_str (hsh.symm.trans (by assumption))
      subst this
      split at h
      · refine ⟨_, fun w _ => ?_, h⟩
        simp only [execOp, hx]
        refine andV ?_
        simp [convert, run_underlying hus, run_underlying hu, C.ren, T.ren]
      · unfold strOf at h
        split at h
        · rename_i e he
          have := shOf_slice (hshs.symm.trans he)
          subst this
          obtain ⟨de, hde, h⟩ := td_of hv h
          obtain ⟨ie, ue, hie, hue, hse, _, hshe, _⟩ := Td.of_spec hde
          split at h
          · rename_i k hk
            have := shOf_int (hshe.symm.trans hk)
            subst this
            obtain ⟨rfl, h⟩ := sameK_of h
            split at h
            · refine ⟨_, fun w _ => ?_, h⟩
              simp only [execOp, hx]
              refine andV ?_
              simp [convert, run_underlying hus, run_underlying hu, run_underlying hue, C.ren, T.ren, Conv.bytesToString]
            · rename_i f y z o n c _ _ _ _ _
              have h := getK_of h
              split at h
              · rename_i w0 k0 e1 z' n' c' g hg
                obtain ⟨⟨rfl, rfl, hon, hu8⟩, hk⟩ := h
                refine ⟨_, fun w hw => ?_, hk⟩
                have hh := hw f y (by
                  unfold reads
                  rcases hfind with ⟨i, hxi, hf⟩ | hf
                  · subst hxi; simp [hf]
                  · exact absurd rfl (hf f y 1 o n c))
                rw [hg] at hh
                have hb := bytes_run (P := P) hh hon hu8 (c := c)
                simp only [execOp, hx]
                refine andV ?_
                rw [sl_adr] at hb ⊢
                unfold convert
                cases ha : adr β f y 1 o with
                | none => rw [ha] at hb; simp [run_underlying hus, run_underlying hu, run_underlying hue, hb]; rfl
                | some A => rw [ha] at hb; simp [run_underlying hus, run_underlying hu, run_underlying hue, hb]; rfl
              · exact h.elim
            · exact h.elim
          · exact h.elim
        · exact h.elim
    · exact h.elim
  | makeFunc fn first cs =>
    cases fn with
    | func F =>
      simp only [xpure] at h
      split at h
      · rename_i hfst
        obtain ⟨vs, hvs, h⟩ := evs_of ht h
        obtain ⟨r, hr, hk⟩ := caps_of (β := β) h
        refine ⟨_, fun w _ => ?_, hk⟩
        have h1 : first = #[] := by simpa using hfst
        subst h1
        have h2 : cs.map a.eval = (r.map (fun q => Value.pointer (some (place β q.1 q.2.1 q.2.2)))).toArray := by
          apply Array.toList_inj.1
          rw [Array.toList_map, hvs, hr]
        simp [execOp, Instr.makeFunc, h2, T.ren, C.ren]
      · rename_i x xs hfst
        split at h
        · rename_i hcs
          obtain ⟨vs, hvs, h⟩ := evs_of ht h
          obtain ⟨r, hr, hk⟩ := firsts_of h
          refine ⟨_, fun w _ => ?_, hk⟩
          have h1 : cs = #[] := by simpa using hcs
          subst h1
          have h2 : first.map a.eval = (r.map fun l => Value.agg (l.map fun q => Value.int q.1 q.2).toArray).toArray := by
            apply Array.toList_inj.1
            rw [Array.toList_map, hfst, hvs, hr, List.map_map]
            exact List.map_congr_left fun l _ => by simp [T.ren, renL, C.ren, Function.comp_def]
          simp [execOp, Instr.makeFunc, h2, T.ren, C.ren]
        · exact h.elim
    | _ => exact h.elim
  | slice t x lo hi mx =>
    obtain ⟨v, hx, h⟩ := evC_of ht h
    obtain ⟨lo', hlo, h⟩ := evO_of ht h
    obtain ⟨hi', hhi, h⟩ := evO_of ht h
    obtain ⟨mx', hmx, h⟩ := evO_of ht h
    obtain ⟨d, hd, h⟩ := td_of hv h
    obtain ⟨i, ud, hi, hu, hs, _, hsh, _⟩ := Td.of_spec hd
    simp only [execOp, hx, hlo, hhi, hmx]
    split at h
    · have := shOf_str (hsh.symm.trans (by assumption))
      subst this
      split at h
      · split at h
        · obtain ⟨r, hr, hk⟩ := sliceS_of (β := β) hu h
          exact ⟨r, fun w _ => andV (hr w), hk⟩
        · exact h.elim
      · exact h.elim
    · have := shOf_slice (hsh.symm.trans (by assumption))
      subst this
      obtain ⟨d', hd', h⟩ := td_of hv h
      obtain ⟨i', u', hi', hu', hs', _⟩ := Td.of_spec hd'
      split at h
      · obtain ⟨hz, h⟩ := h
        obtain ⟨r, hr, hk⟩ := sliceV_of (β := β) hu hi' (hs'.symm.trans hz) h
        exact ⟨r, fun w _ => andV (hr w), hk⟩
      · obtain ⟨r, hr, hk⟩ := sliceN_of (β := β) hu hi' h
        exact ⟨r, fun w _ => andV (hr w), hk⟩
      · exact h.elim
    · have := shOf_array (hsh.symm.trans (by assumption))
      subst this
      obtain ⟨d', hd', h⟩ := td_of hv h
      obtain ⟨i', u', hi', hu', hs', _⟩ := Td.of_spec hd'
      cases v with
      | pe f0 x0 z0 e0 j0 =>
        have h8 := getK_of h
        have hh := hst.ck f0 x0
        split at h8
        · rename_i hg
          rw [hg] at hh
          obtain ⟨⟨hz, hj, hn, hle⟩, h9⟩ := h8
          have hflag : (β f0 x0).2.2 = .live := by
            exact Fl.live_of fun hb => by have := hh.2.1 hb; have := hh.1; omega
          obtain ⟨r, hr, hk⟩ := sliceArr_of (β := β) hu hi' (hs'.symm.trans hz) hflag h9
          rw [hj]
          exact ⟨r, fun w _ => andV (hr w), hk⟩
        · exact h8.elim
      | _ => exact h.elim
    · exact h.elim
  | fieldAddr t x fi =>
    obtain ⟨v, hx, h⟩ := evC_of ht h
    obtain ⟨d, hd, h⟩ := td_of hv h
    obtain ⟨i, ud, hi, hu, hs, _, hsh, _⟩ := Td.of_spec hd
    simp only [execOp, hx]
    split at h
    · obtain ⟨fs, rfl, rfl⟩ := shOf_struct (hsh.symm.trans (by assumption))
      obtain ⟨⟨off, ft, sz⟩, hn, h⟩ := nth_of h
      simp only at h
      split at h
      · exact h.elim
      · split at h
        · exact ⟨_, fun w _ => andV (fieldAt_p hu hn (by simp) _ _ _), h⟩
        · exact ⟨_, fun w _ => andV (fieldAt_pe hu hn (by simp) _ _ _ _ _), h⟩
        · exact h.elim
    · exact h.elim
  | field t x fi =>
    obtain ⟨v, hx, h⟩ := ev_of ht h
    obtain ⟨d, hd, h⟩ := td_of hv h
    obtain ⟨i, ud, hi, hu, hs, _, hsh, _⟩ := Td.of_spec hd
    simp only [execOp, hx]
    split at h
    · obtain ⟨fs, rfl, rfl⟩ := shOf_struct (hsh.symm.trans (by assumption))
      obtain ⟨⟨off, ft, sz⟩, hn, h⟩ := nth_of h
      obtain ⟨d', hd', h⟩ := td_of hv h
      obtain ⟨i', u', hi', hu', hs', _, hsh', _⟩ := Td.of_spec hd'
      obtain ⟨r, hr, hk⟩ := part_of (β := β) hi' hu' hs' hsh' h
      refine ⟨r, fun w _ => ?_, hk⟩
      rw [List.getElem?_map] at hn
      obtain ⟨fd, hfd, he⟩ := Option.map_eq_some_iff.1 hn
      simp only [Prod.mk.injEq] at he
      obtain ⟨rfl, rfl, rfl⟩ := he
      have hfd' : fs[fi]? = some fd := by rw [← Array.getElem?_toList]; exact hfd
      refine andV ?_
      simp only [Instr.field, Sem.run_bind, run_underlying hu, Result.andThen_ok, hfd', T.ren, asAgg, Sem.run_pure, hr w]
    · exact h.elim
  | indexAddr t x ix =>
    obtain ⟨v, hx, h⟩ := evC_of ht h
    obtain ⟨j, hj, h⟩ := evC_of ht h
    obtain ⟨d, hd, h⟩ := td_of hv h
    obtain ⟨i, ud, hi, hu, hs, _, hsh, _⟩ := Td.of_spec hd
    simp only [execOp, hx, hj]
    split at h
    · split at h
      · have := shOf_slice (hsh.symm.trans (by assumption))
        subst this
        obtain ⟨d', hd', h⟩ := td_of hv h
        obtain ⟨i', u', hi', hu', hs', _⟩ := Td.of_spec hd'
        split at h
        · have h1 := getK_of h
          split at h1
          · rename_i hg
            obtain ⟨hz, h01, hk⟩ := h1
            exact ⟨_, fun w _ => andV (index_sl hu hi' (hs'.symm.trans hz) (by rw [← hg]; exact hst.ck _ _) h01.1 h01.2.1 h01.2.2 w), hk⟩
          · exact h1.elim
        · exact h.elim
      · have := shOf_array (hsh.symm.trans (by assumption))
        subst this
        obtain ⟨d', hd', h⟩ := td_of hv h
        obtain ⟨i', u', hi', hu', hs', _⟩ := Td.of_spec hd'
        split at h
        · split at h
          · obtain ⟨⟨hz, hj0, h0, h1⟩, hk⟩ := h
            rw [hj0]
            exact ⟨_, fun w _ => andV (index_pe hu hi' (hs'.symm.trans hz) h0 h1 w), hk⟩
          · obtain ⟨⟨h0, h1⟩, hk⟩ := h
            exact ⟨_, fun w _ => andV (by rw [hs']; exact index_pj hu hi' h0 h1 w), hk⟩
        · obtain ⟨⟨h0, h1⟩, hk⟩ := h
          exact ⟨_, fun w _ => andV (by rw [hs']; exact index_p hu hi' h0 h1 w), hk⟩
        · exact h.elim
      · exact h.elim
    · exact h.elim
  | index t x ix =>
    obtain ⟨v, hx, h⟩ := ev_of ht h
    obtain ⟨j, hj, h⟩ := evC_of ht h
    obtain ⟨d, hd, h⟩ := td_of hv h
    obtain ⟨i, ud, hi, hu, hs, _, hsh, _⟩ := Td.of_spec hd
    simp only [execOp, hx, hj]
    split at h
    · split at h
      · split at h
        · have := shOf_str (hsh.symm.trans (by assumption))
          subst this
          obtain ⟨h01, hk⟩ := h
          exact ⟨_, fun w _ => andV (index_s hu _ _ _ h01.1 h01.2), hk⟩
        · exact h.elim
      · split at h
        · have := shOf_array (hsh.symm.trans (by assumption))
          subst this
          obtain ⟨d', hd', h⟩ := td_of hv h
          obtain ⟨i', u', hi', hu', hs', _, hsh', _⟩ := Td.of_spec hd'
          obtain ⟨⟨h0, h1⟩, h⟩ := h
          obtain ⟨r, hr, hk⟩ := part_of (β := β) hi' hu' hs' hsh' h
          refine ⟨r, fun w _ => andV ?_, hk⟩
          have := hr w
          rw [hs'] at this
          simp [Instr.index, run_underlying hu, T.ren, C.ren, asIntOf, h0, h1, sizeOf, typeInfo, hi', this]
        · exact h.elim
      · exact h.elim
    · exact h.elim
  | extract x ix =>
    obtain ⟨v, hx, h⟩ := ev_of ht h
    cases v with
    | t l =>
      obtain ⟨e, he, h⟩ := nth_of h
      obtain ⟨r, hr, hk⟩ := toT_of (β := β) h
      refine ⟨r, fun w _ => ?_, hk⟩
      simp only [execOp, hx]
      refine andV ?_
      simp [Instr.extract, T.ren, he, hr]
    | _ => exact h.elim
  | call c =>
    obtain ⟨callee, args, ats⟩ := c
    cases callee with
    | builtin b =>
      obtain ⟨v, hr, hk⟩ := builtin_of hv ht h ty (args.map fun | .const _ => true | _ => false)
      refine ⟨v, fun w hw => ?_, hk⟩
      have e1 : (List.map a.eval args.toList).toArray = args.map a.eval := Array.toList_inj.1 (by rw [Array.toList_map])
      have e2 : ats.toList.toArray = ats := Array.toList_inj.1 rfl
      rw [e1, e2] at hr
      simp only [execOp, resolve, Sem.run_bind, Sem.run_pure, Result.andThen_ok, invoke]
      exact hr w hw
    | _ => exact h.elim
  | _ => exact h.elim
end Go.X
set_option linter.constructorNameAsVariable false
set_option linter.unusedVariables false
namespace Go.X
def C.bel (n : Nat) : C → Prop
  | .p f _ _ => f < n
  | .pe f _ _ _ _ => f < n
  | .sl f _ _ _ _ _ => f < n
  | .mp f _ => f < n
  | .fn _ l => ∀ q ∈ l, q.1 < n
  | _ => True
def E.bel (n : Nat) : E → Prop
  | .c v => v.bel n
  | .a l => ∀ v ∈ l, v.bel n
def T.bel (n : Nat) : T → Prop
  | .c v => v.bel n
  | .a l => ∀ v ∈ l, v.bel n
  | .t l => ∀ e ∈ l, e.bel n
def Ck.bel (n : Nat) : Ck → Prop
  | .no => True
  | .cells _ l => ∀ v ∈ l, v.bel n
  | .row _ _ _ _ m _ f => ∀ i, i < m → ∀ v ∈ f i, v.bel n
  | .map _ k _ m f => ∀ i, i < m → match k with
    | true => (f i).2.2.bel n
    | false => (f i).2.2.flat = true
  | .iter m _ _ _ => m < n
theorem C.bel_mono {v : C} {n m : Nat} (h : v.bel n) (hm : n ≤ m) : v.bel m := by
  cases v <;> simp only [C.bel] at h ⊢ <;> first | trivial | omega | exact fun q hq => Nat.lt_of_lt_of_le (h q hq) hm
theorem T.bel_mono {v : T} {n m : Nat} (h : v.bel n) (hm : n ≤ m) : v.bel m := by
  cases v with
  | c v => exact C.bel_mono h hm
  | a l => exact fun v hv => C.bel_mono (h v hv) hm
  | t l =>
    intro e he
    have := h e he
    cases e with
    | c v => exact C.bel_mono this hm
    | a l => exact fun v hv => C.bel_mono (this v hv) hm
theorem E.bel_mono {v : E} {n m : Nat} (h : v.bel n) (hm : n ≤ m) : v.bel m := by
  cases v with
  | c v => exact C.bel_mono h hm
  | a l => exact fun v hv => C.bel_mono (h v hv) hm
theorem Ck.bel_mono {v : Ck} {n m : Nat} (h : v.bel n) (hm : n ≤ m) : v.bel m := by
  cases v with
  | no => trivial
  | cells _ l => exact fun v hv => C.bel_mono (h v hv) hm
  | row _ _ _ _ _ _ f => exact fun i hi v hv => C.bel_mono (h i hi v hv) hm
  | map _ k _ _ f =>
    intro i hi
    have := h i hi
    cases k with
    | true => exact E.bel_mono this hm
    | false => exact this
  | iter _ _ _ _ => exact Nat.lt_of_lt_of_le h hm
def Agree (n : Nat) (β β' : Nm) : Prop := ∀ f x, f < n → β f x = β' f x
theorem place_agree {β β' : Nm} {n f : Nat} (h : Agree n β β') (hf : f < n) (x o : Nat) : place β f x o = place β' f x o := by
  unfold place; rw [h f x hf]
theorem C.ren_agree {v : C} {β β' : Nm} {n : Nat} (hv : v.bel n) (h : Agree n β β') : v.ren β = v.ren β' := by
  cases v <;> simp only [C.ren, C.bel] at hv ⊢
  · rw [place_agree h hv]
  · rw [place_agree h hv]
  · rw [place_agree h hv, h _ _ hv]
  · rw [h _ _ hv]
  · congr 2
    apply List.map_congr_left
    intro q hq
    rw [place_agree h (hv q hq)]
theorem renL_agree {l : List C} {β β' : Nm} {n : Nat} (hv : ∀ v ∈ l, v.bel n) (h : Agree n β β') : renL β l = renL β' l := by
  unfold renL
  congr 1
  exact List.map_congr_left fun v hm => C.ren_agree (hv v hm) h
theorem T.ren_agree {v : T} {β β' : Nm} {n : Nat} (hv : v.bel n) (h : Agree n β β') : v.ren β = v.ren β' := by
  cases v with
  | c v => exact C.ren_agree hv h
  | a l => simp only [T.ren]; rw [renL_agree hv h]
  | t l =>
    simp only [T.ren]
    congr 2
    apply List.map_congr_left
    intro e he
    have := hv e he
    cases e with
    | c v => exact C.ren_agree this h
    | a l => simp only [E.ren]; rw [renL_agree this h]
theorem E.ren_agree {v : E} {β β' : Nm} {n : Nat} (hv : v.bel n) (h : Agree n β β') : v.ren β = v.ren β' := by
  cases v with
  | c v => exact C.ren_agree hv h
  | a l => simp only [E.ren]; rw [renL_agree hv h]
theorem Ck.holds_agree {c : Ck} {β β' : Nm} {n : Nat} (hv : c.bel n) (h : Agree n β β') {w : World} {a : Nat × Nat × Fl} (hh : c.holds β w a) : c.holds β' w a := by
  cases c with
  | no => trivial
  | cells own l =>
    obtain ⟨cur, e, fz, hb, hc, ho⟩ := hh
    exact ⟨cur, e, fz, hb, fun j v hj => by rw [hc j v hj, C.ren_agree (hv v (List.mem_of_getElem? hj)) h], ho⟩
  | row own k e z n c f =>
    obtain ⟨hnc, hnil, hk, hl, hblk⟩ := hh
    refine ⟨hnc, hnil, hk, hl, fun h0 => ?_⟩
    obtain ⟨cur, te, fz, hb, hc, ho⟩ := hblk h0
    exact ⟨cur, te, fz, hb, fun i hi j v hj => by rw [hc i hi j v hj, C.ren_agree (hv i hi v (List.mem_of_getElem? hj)) h], ho⟩
  | map own k ck n f =>
    obtain ⟨⟨es, h1, h2, h3⟩, h4⟩ := hh
    refine ⟨⟨es, h1, h2, fun i hi => ?_⟩, h4⟩
    have := hv i hi
    cases k with
    | true => rw [h3 i hi, E.ren_agree this h]
    | false => rw [h3 i hi, E.flat_ren this β β']
  | iter m x ck seen =>
    obtain ⟨h1, h2⟩ := hh
    exact ⟨h1, by rw [h2, h m x hv]⟩
structure Wf (s : S) : Prop where
  t : ∀ i v, find s.t i = some v → v.bel s.h.length
  h : ∀ f x, (get s.h f x).bel s.h.length
section wf
variable {s : S} {tb : Tb} {n : Nat}
theorem td_imp {t : Nat} {K K' : Td → Prop} (hk : ∀ d, K d → K' d) (h : td tb t K) : td tb t K' := by
  induction tb with
  | nil => exact h
  | cons p l ih =>
    obtain ⟨j, d⟩ := p
    unfold td at h ⊢
    split at h
    · exact hk _ h
    · exact ih h
theorem lk_wf {t : List (Nat × T)} {i : Nat} {K K' : T → Prop} (hw : ∀ i v, find t i = some v → v.bel n) (hk : ∀ v : T, v.bel n → K v → K' v) (h : lk t i K) : lk t i K' := by
  have : ∀ t', (∀ v, find t' i = some v → v.bel n) → lk t' i K → lk t' i K' := by
    intro t'
    induction t' with
    | nil => intro _ h; exact h
    | cons p r ih =>
      obtain ⟨j, v⟩ := p
      intro hw h
      unfold lk at h ⊢
      unfold find at hw
      split at h
      · rename_i hb
        refine hk v (hw v ?_) h
        rw [if_pos (Nat.eq_of_beq_eq_true hb)]
      · rename_i hb
        refine ih (fun u hu => hw u ?_) h
        rw [if_neg (Nat.ne_of_beq_eq_false hb)]
        exact hu
  exact this t (hw i) h
theorem ofVal_bel {v : Value} {c : C} (h : ofVal v = some c) : c.bel n := by
  unfold ofVal at h
  split at h <;> first | (cases h; trivial) | cases h
theorem ev_wf (hw : Wf s) {x : Operand} {K K' : T → Prop} (hk : ∀ v : T, v.bel s.h.length → K v → K' v) (h : ev s x K) : ev s x K' := by
  cases x with
  | tmp i => exact lk_wf hw.t hk h
  | const v =>
    unfold ev at h ⊢
    simp only at h ⊢
    split at h
    · rename_i r hr
      exact hk _ (ofVal_bel hr) h
    · exact h
  | func f => exact hk _ (by simp [T.bel, C.bel]) h
  | global g => exact h
theorem evC_wf (hw : Wf s) {x : Operand} {K K' : C → Prop} (hk : ∀ v : C, v.bel s.h.length → K v → K' v) (h : evC s x K) : evC s x K' :=
  ev_wf hw (fun v hv hh => by
    cases v with
    | c r => exact hk r hv hh
    | a l => exact hh
    | t l => exact hh) h
theorem evs_wf (hw : Wf s) : ∀ {xs : List Operand} {K K' : List T → Prop}, (∀ vs : List T, (∀ v ∈ vs, v.bel s.h.length) → K vs → K' vs) → evs s xs K → evs s xs K'
  | [], K, K', hk, h => hk [] (by simp) h
  | x :: xs, K, K', hk, h => ev_wf hw (fun v hv hh => evs_wf hw (fun vs hvs hh => hk (v :: vs) (by
      intro u hu
      rcases List.mem_cons.1 hu with rfl | hu
      · exact hv
      · exact hvs u hu) hh) hh) h
theorem evO_wf (hw : Wf s) {x : Option Operand} {K K' : Option C → Prop} (hk : ∀ v : Option C, K v → K' v) (h : evO s x K) : evO s x K' := by
  cases x with
  | none => exact hk _ h
  | some x => exact evC_wf hw (fun v _ hh => hk _ hh) h
theorem nth_imp {α : Type} : ∀ {l : List α} {i : Nat} {K K' : α → Prop}, (∀ v ∈ l, K v → K' v) → nth l i K → nth l i K'
  | [], i, K, K', _, h => by cases i <;> exact h
  | a :: l, 0, K, K', hk, h => hk a (by simp) h
  | a :: l, i + 1, K, K', hk, h => nth_imp (l := l) (fun v hv => hk v (by simp [hv])) h
theorem cut_imp {α : Type} : ∀ {l : List α} {o n : Nat} {K K' : List α → Prop}, (∀ r : List α, (∀ v ∈ r, v ∈ l) → K r → K' r) → cut l o n K → cut l o n K'
  | l, 0, 0, K, K', hk, h => by
    have h1 : K [] := by cases l <;> exact h
    have := hk [] (by simp) h1
    cases l <;> exact this
  | [], 0, n + 1, K, K', hk, h => h.elim
  | [], o + 1, 0, K, K', hk, h => h.elim
  | [], o + 1, n + 1, K, K', hk, h => h.elim
  | a :: l, 0, n + 1, K, K', hk, h => cut_imp (l := l) (o := 0) (n := n) (fun r hr hh => hk _ (by
      intro v hv
      rcases List.mem_cons.1 hv with rfl | hv
      · simp
      · simp [hr v hv]) hh) h
  | a :: l, o + 1, n, K, K', hk, h => by
    have h' : cut l o n K := by cases n <;> exact h
    have := cut_imp (l := l) (fun r hr hh => hk r (fun v hv => by simp [hr v hv]) hh) h'
    cases n <;> exact this
theorem getK_imp {h : List Fam} {f x : Nat} {K K' : Ck → Prop} (hk : K (get h f x) → K' (get h f x)) (hh : getK h f x K) : getK h f x K' := by
  have h1 : K (get h f x) := getK_of hh
  have h2 := hk h1
  unfold getK at hh ⊢
  have : ∀ (l : List Fam) (i : Nat), (∀ m, l[i]? = some m → K' (m.at x)) → nth l i (fun m => m.atK x K) → nth l i (fun m => m.atK x K') := by
    intro l
    induction l with
    | nil => intro i _ h; cases i <;> exact h
    | cons m l ih =>
      intro i hi h
      cases i with
      | zero =>
        have := hi m rfl
        cases m with
        | one q => cases x with
          | zero => exact this
          | succ x => exact h
        | many g => exact ManyK.here this
      | succ i => exact ih i (fun m hm => hi m (by simpa using hm)) h
  refine this h f (fun m hm => ?_) hh
  unfold get at h2
  rw [hm] at h2
  exact h2
theorem loadAt_wf {d : Td} {l : List C} {o : Nat} {K K' : T → Prop} (hl : ∀ v ∈ l, v.bel n) (hk : ∀ v : T, v.bel n → K v → K' v) (h : loadAt d l o K) : loadAt d l o K' := by
  unfold loadAt at h ⊢
  split at h
  · exact cut_imp (fun r hr hh => hk _ (fun v hv => hl v (hr v hv)) hh) h
  · exact cut_imp (fun r hr hh => hk _ (fun v hv => hl v (hr v hv)) hh) h
  · exact nth_imp (fun v hv hh => hk _ (hl v hv) hh) h
theorem arith_wf {k : IntKind} {x : Int} {K K' : T → Prop} (hk : ∀ v : T, v.bel n → K v → K' v) (h : arith k x K) : arith k x K' := by
  unfold arith at h ⊢
  split at h
  · exact ⟨h.1, hk _ trivial h.2⟩
  · exact hk _ trivial h
theorem cellEq_imp {x y : C} {K K' : Bool → Prop} (hk : ∀ r, K r → K' r) (h : cellEq x y K) : cellEq x y K' := by
  unfold cellEq at h ⊢
  split at h <;> first
    | exact hk _ h
    | (unfold sameK at h ⊢; split at h <;> first | exact hk _ h | exact h)
    | exact h
theorem bin_wf {op : BinOp} {d : Sh} {x y : C} {K K' : T → Prop} (hk : ∀ v : T, v.bel n → K v → K' v) (h : bin op d x y K) : bin op d x y K' := by
  have kn : ∀ {r : Bool}, known op r K → known op r K' := by
    intro r h
    unfold known at h ⊢
    split at h <;> first | exact hk _ trivial h | exact h
  unfold bin at h ⊢
  split at h
  · unfold intOp at h ⊢
    split at h
    · exact ⟨h.1, hk _ trivial h.2⟩
    · exact ⟨h.1, hk _ trivial h.2⟩
    · unfold sameK at h ⊢
      split at h
      · unfold intBin at h ⊢
        split at h <;> first
          | exact arith_wf hk h
          | exact ⟨h.1, arith_wf hk h.2⟩
          | exact ⟨h.1, hk _ trivial h.2⟩
          | exact hk _ trivial h
          | exact h
      · exact h
  · unfold strBin at h ⊢
    split at h <;> first
      | exact ⟨h.1, hk _ trivial h.2⟩
      | exact hk _ trivial h
      | exact h
  · split at h <;> first | exact kn h | exact h
  · split at h <;> first | exact kn h | exact h
  · split at h <;> first | exact kn h | exact h
  · split at h <;> first | exact kn h | exact h
  · split at h <;> first | exact kn h | exact h
  · split at h <;> first | exact kn h | exact h
  · split at h
    · split at h
      · exact cellEq_imp (fun r hr => hk _ trivial hr) h
      · exact cellEq_imp (fun r hr => hk _ trivial hr) h
      · exact h
    · exact h
theorem sameK_imp {k l : IntKind} {A B : Prop} (hi : A → B) (h : sameK k l A) : sameK k l B := by
  unfold sameK at h ⊢
  split at h
  · exact hi h
  · exact h
theorem eqSh_imp {sh : Sh} {x y : C} {K K' : Bool → Prop} (hk : ∀ r, K r → K' r) (h : eqSh sh x y K) : eqSh sh x y K' := by
  unfold eqSh at h ⊢
  split at h
  · exact sameK_imp (fun h => sameK_imp (hk _) h) h
  · exact hk _ h
  · split at h
    · exact cellEq_imp hk h
    · exact h
  · exact h
theorem allEq_imp {shs : List Sh} {l m : List C} {K K' : Bool → Prop} (hk : ∀ r, K r → K' r) (h : allEq shs l m K) : allEq shs l m K' := by
  induction shs generalizing l m K K' with
  | nil => cases l <;> cases m <;> first | exact hk _ h | exact h
  | cons s r ih => cases l with
    | nil => exact h
    | cons a l => cases m with
      | nil => exact h
      | cons b m => exact eqSh_imp (fun x h => ih (fun y h => hk _ h) h) h
theorem sliceV_wf {f x z o n' c : Nat} {lo hi mx : Option C} {K K' : T → Prop} (hf : f < n) (hk : ∀ v : T, v.bel n → K v → K' v) (h : sliceV f x z o n' c lo hi mx K) : sliceV f x z o n' c lo hi mx K' := by
  unfold sliceV at h ⊢
  split at h
  · split at h <;> first | exact ⟨h.1, hk _ hf h.2⟩ | exact hk _ hf h | exact h
  · split at h <;> first | exact ⟨h.1, hk _ hf h.2⟩ | exact h
  · exact h
theorem sliceS_wf {b : ByteArray} {lo hi : Option C} {K K' : T → Prop} (hk : ∀ v : T, v.bel n → K v → K' v) (h : sliceS b lo hi K) : sliceS b lo hi K' := by
  unfold sliceS at h ⊢
  split at h <;> first | exact ⟨h.1, hk _ trivial h.2⟩ | exact hk _ trivial h | exact h
theorem sliceN_wf {lo hi mx : Option C} {K K' : T → Prop} (hk : ∀ v : T, v.bel n → K v → K' v) (h : sliceN lo hi mx K) : sliceN lo hi mx K' := by
  unfold sliceN at h ⊢
  split at h <;> first | exact ⟨h.1, h.2.1, hk _ trivial h.2.2⟩ | exact ⟨h.1, hk _ trivial h.2⟩ | exact hk _ trivial h | exact h
theorem caps_wf : ∀ {vs : List T} {K K' : List (Nat × Nat × Nat) → Prop}, (∀ v ∈ vs, v.bel n) → (∀ r : List (Nat × Nat × Nat), (∀ q ∈ r, q.1 < n) → K r → K' r) → caps vs K → caps vs K'
  | [], K, K', _, hk, h => hk [] (by simp) h
  | v :: vs, K, K', hv, hk, h => by
    unfold caps at h ⊢
    split at h
    · rename_i heq; cases heq
    · rename_i heq
      cases heq
      have h1 := hv _ (List.mem_cons_self ..)
      exact caps_wf (fun v hv' => hv v (by simp [hv'])) (fun r hr hh => hk _ (by
        intro q hq
        rcases List.mem_cons.1 hq with rfl | hq
        · exact h1
        · exact hr q hq) hh) h
    · exact h
theorem br_imp {v : C} {A B A' B' : Prop} (ha : A → A') (hb : B → B') (h : br v A B) : br v A' B' := by
  unfold br at h ⊢
  split at h
  · exact ha h
  · exact hb h
  · exact ⟨fun e => ha (h.1 e), fun e => hb (h.2 e)⟩
  · exact h
theorem load_wf (hw : Wf s) {t : Nat} {v : C} {K K' : T → Prop} (hk : ∀ v : T, v.bel s.h.length → K v → K' v) (h : load tb s t v K) : load tb s t v K' := by
  refine td_imp (fun d h => ?_) h
  cases v with
  | p f x o =>
    refine getK_imp (fun h => ?_) h
    have := hw.h f x
    split at h
    · rename_i own l hg
      rw [hg] at this
      exact loadAt_wf this hk h
    · exact h.elim
  | pe f x z e j =>
    refine getK_imp (fun h => ?_) h
    have := hw.h f x
    split at h
    · rename_i own k e' z' n' c g hg
      rw [hg] at this
      refine ⟨h.1, ?_⟩
      have h2 := h.2
      unfold loadRow at h2 ⊢
      split at h2
      · exact ⟨h2.1, loadAt_wf (this e h2.1) hk h2.2⟩
      · split at h2
        · refine ⟨h2.1, hk _ (fun v hv => ?_) h2.2⟩
          obtain ⟨i, hi, hv⟩ := flatR_mem hv
          exact this (e + i) (by omega) v hv
        · exact h2.elim
    · exact h.elim
  | _ => exact h
theorem lenOf_wf {v : C} {d : Sh} {K K' : T → Prop} (hk : ∀ v : T, v.bel n → K v → K' v) (h : lenOf v d K) : lenOf v d K' := by
  unfold lenOf at h ⊢
  split at h <;> first | exact hk _ trivial h | exact h
theorem xpure_wf (hw : Wf s) {op : Op} {K K' : T → Prop} (hk : ∀ v : T, v.bel s.h.length → K v → K' v) (h : xpure tb s op K) : xpure tb s op K' := by
  cases op with
  | move x => exact ev_wf hw hk h
  | assign x => exact ev_wf hw hk h
  | pick q x y => exact evC_wf hw (fun v hv h => br_imp (ev_wf hw hk) (ev_wf hw hk) h) h
  | load t x => exact evC_wf hw (fun v hv h => load_wf hw hk h) h
  | nilCheck x =>
    refine evC_wf hw (fun v hv h => ?_) h
    cases v <;> first | exact hk _ hv h | exact h
  | binOp op t x y yt =>
    refine ev_wf hw (fun v hv h => ev_wf hw (fun u hu h => td_imp (fun d h => ?_) h) h) h
    unfold binV at h ⊢
    split at h
    · split at h
      · refine getK_imp (fun h => ?_) h
        split at h
        · unfold nilK at h ⊢
          split at h
          · exact fun b hb => hk _ trivial (h b hb)
          · exact fun b hb => hk _ trivial (h b hb)
          · exact h
        · exact h
      · exact h
    · exact bin_wf hk h
    · unfold binA at h ⊢
      split at h
      · exact h
      · refine allEq_imp (fun x h => ?_) h
        cases op <;> first | exact hk _ trivial h | exact h
    · exact h
  | unOp op t x =>
    refine evC_wf hw (fun v hv h => ?_) h
    cases op <;> first | exact h | skip
    all_goals cases v <;> first | exact hk _ trivial h | exact arith_wf hk h | exact h
  | convert src dst x =>
    refine evC_wf hw (fun v hv h => td_imp (fun d h => td_imp (fun d h => ?_) h) h) h
    split at h
    · split at h
      · exact hk _ trivial h
      · exact h.elim
    · split at h
      · exact hk _ trivial h
      · unfold strOf at h ⊢
        split at h
        · refine td_imp (fun d h => ?_) h
          split at h
          · unfold sameK at h ⊢
            split at h
            · split at h
              · exact hk _ trivial h
              · refine getK_imp (fun h => ?_) h
                split at h
                · exact ⟨h.1, hk _ trivial h.2⟩
                · exact h.elim
              · exact h.elim
            · exact h.elim
          · exact h.elim
        · exact h.elim
    · exact h.elim
  | makeFunc fn first cs =>
    cases fn with
    | func F =>
      simp only [xpure] at h ⊢
      split at h
      · exact evs_wf hw (fun vs hvs h => caps_wf hvs (fun r hr h => hk _ hr h) h) h
      · split at h
        · exact evs_wf hw (fun vs hvs h => by
            obtain ⟨r, hr, hk2⟩ := firsts_of h
            have h3 : ∀ (q : List (List (IntKind × Int))) {K : List (List (IntKind × Int)) → Prop}, K q → firsts (q.map fun l => T.a (l.map fun p => C.i p.1 p.2)) K := by
              intro q
              induction q with
              | nil => intro K h; exact h
              | cons l q ih =>
                intro K h
                have h4 : ∀ (l : List (IntKind × Int)) {J : List (IntKind × Int) → Prop}, J l → intsK (l.map fun p => C.i p.1 p.2) J := by
                  intro l
                  induction l with
                  | nil => intro J h; exact h
                  | cons p l ih2 => intro J h; exact ih2 h
                exact h4 l (ih (K := fun rs => K (l :: rs)) h)
            rw [hr]
            exact h3 r (hk _ trivial hk2)) h
        · exact h
    | _ => exact h
  | slice t x lo hi mx =>
    refine evC_wf hw (fun v hv h => evO_wf hw (fun lo h => evO_wf hw (fun hi h => evO_wf hw (fun mx h => td_imp (fun d h => ?_) h) h) h) h) h
    split at h
    · split at h
      · split at h
        · exact sliceS_wf hk h
        · exact h.elim
      · exact h.elim
    · refine td_imp (fun d h => ?_) h
      split at h
      · exact ⟨h.1, sliceV_wf hv hk h.2⟩
      · exact sliceN_wf hk h
      · exact h.elim
    · refine td_imp (fun d h => ?_) h
      split at h
      · refine getK_imp (fun h => ?_) h
        split at h
        · exact ⟨h.1, sliceV_wf hv hk h.2⟩
        · exact h.elim
      · exact h.elim
    · exact h.elim
  | fieldAddr t x fi =>
    refine evC_wf hw (fun v hv h => td_imp (fun d h => ?_) h) h
    split at h
    · skip
      refine nth_imp (fun p hp h => ?_) h
      split at h
      · exact h.elim
      · skip
        cases v <;> first | exact hk _ hv h | exact h
    · exact h.elim
  | field t x fi =>
    refine ev_wf hw (fun v hv h => td_imp (fun d h => ?_) h) h
    split at h
    · skip
      exact nth_imp (fun p hp h => td_imp (fun d h => loadAt_wf hv hk h) h) h
    · exact h.elim
  | indexAddr t x ix =>
    refine evC_wf hw (fun v hv h => evC_wf hw (fun i hi h => td_imp (fun d h => ?_) h) h) h
    split at h
    · split at h
      · refine td_imp (fun d h => ?_) h
        split at h
        · refine getK_imp (fun h => ?_) h
          split at h
          · exact ⟨h.1, h.2.1, hk _ hv h.2.2⟩
          · exact h.elim
        · exact h.elim
      · refine td_imp (fun d h => ?_) h
        split at h
        · split at h
          · exact ⟨h.1, hk _ hv h.2⟩
          · exact ⟨h.1, hk _ hv h.2⟩
        · exact ⟨h.1, hk _ hv h.2⟩
        · exact h.elim
      · exact h.elim
    · exact h.elim
  | index t x ix =>
    refine ev_wf hw (fun v hv h => evC_wf hw (fun i hi h => td_imp (fun d h => ?_) h) h) h
    split at h
    · split at h
      · split at h
        · exact ⟨h.1, hk _ trivial h.2⟩
        · exact h.elim
      · split at h
        · exact td_imp (fun d h => ⟨h.1, loadAt_wf hv hk h.2⟩) h
        · exact h.elim
      · exact h.elim
    · exact h.elim
  | extract x ix =>
    refine ev_wf hw (fun v hv h => ?_) h
    cases v with
    | t l =>
      refine nth_imp (fun e he h => ?_) h
      have := hv e he
      cases e with
      | c v => exact hk (.c v) this h
      | a l => exact hk (.a l) this h
    | _ => exact h
  | call c =>
    obtain ⟨callee, args, ats⟩ := c
    cases callee with
    | builtin b =>
      simp only [xpure] at h ⊢
      unfold builtinOp at h ⊢
      cases b with
      | len =>
        simp only at h ⊢
        split at h
        · refine evC_wf hw (fun v hv h => td_imp (fun d h => ?_) h) h
          cases v with
          | mp f y =>
            refine getK_imp (fun h => ?_) h
            split at h
            · split at h
              · exact hk _ trivial h
              · exact h
            · exact h
          | _ => exact lenOf_wf hk h
        · exact h.elim
      | max =>
        simp only at h ⊢
        split at h
        · refine evC_wf hw (fun v hv h => evC_wf hw (fun u hu h => ?_) h) h
          split at h
          · exact hk _ trivial h
          · exact h.elim
        · exact h.elim
      | min =>
        simp only at h ⊢
        split at h
        · refine evC_wf hw (fun v hv h => evC_wf hw (fun u hu h => ?_) h) h
          split at h
          · exact hk _ trivial h
          · exact h.elim
        · exact h.elim
      | _ => exact h
    | _ => exact h
  | _ => exact h
end wf
end Go.X
set_option linter.constructorNameAsVariable false
set_option linter.unusedVariables false
namespace Go.X
structure Cx where
  W0 : World
  own0 : Nat → Prop
  kn0 : Nat → Prop
  m : Nat
  β0 : Nm
  N : Nat
structure Rel (cx : Cx) (β : Nm) (s : S) (a : Act) (w : World) : Prop where
  dfr : a.defers = []
  sz : a.tmps.size = cx.N
  tm : Tmps β s a
  ft : Fits β s.h w
  wf : Wf s
  ml : cx.m ≤ s.h.length
  pin : ∀ f x, f < cx.m → β f x = cx.β0 f x
  os : w.os = cx.W0.os
  tape : w.tape = cx.W0.tape
  out : w.output = cx.W0.output
  hs : cx.W0.heap.size ≤ w.heap.size
  fr : ∀ b, b < cx.W0.heap.size → ¬ cx.own0 b → w.heap[b]? = cx.W0.heap[b]?
  ow : ∀ f x, (get s.h f x).owned = true → cx.own0 (β f x).1 ∨ cx.W0.heap.size ≤ (β f x).1
  kn : ∀ f x, (get s.h f x).known = true → cx.kn0 (β f x).1 ∨ cx.W0.heap.size ≤ (β f x).1
def putK (N : Nat) (t : List (Nat × T)) (h : List Fam) (dst : Option Nat) (v : T) (K : S → Prop) : Prop :=
  match dst with
  | none => K ⟨t, h⟩
  | some d => match Nat.blt d N with
    | true => match t with
      | [] => K ⟨[(d, v)], h⟩
      | a :: r => K ⟨(d, v) :: a :: r, h⟩
    | false => False
theorem putK_some {N : Nat} {t : List (Nat × T)} {h : List Fam} {d : Nat} {v : T} {K : S → Prop} (hp : putK N t h (some d) v K) : Nat.blt d N = true ∧ K ⟨(d, v) :: t, h⟩ := by
  unfold putK at hp
  simp only at hp
  split at hp
  · rename_i hb
    cases t <;> exact ⟨hb, hp⟩
  · exact hp.elim
theorem putK_none {N : Nat} {t : List (Nat × T)} {h : List Fam} {v : T} {K : S → Prop} (hp : putK N t h none v K) : K ⟨t, h⟩ := hp
theorem putK_mk {N : Nat} {t : List (Nat × T)} {h : List Fam} {d : Nat} {v : T} {K : S → Prop} (hb : Nat.blt d N = true) (hk : K ⟨(d, v) :: t, h⟩) : putK N t h (some d) v K := by
  unfold putK
  simp only [hb]
  cases t <;> exact hk
variable {cx : Cx} {β : Nm} {s : S} {a : Act} {w : World} {P : Program} {tb : Tb}
theorem Rel.put (hr : Rel cx β s a w) {dst : Option Nat} {v : T} (hb : v.bel s.h.length) {K : S → Prop} (h : putK cx.N s.t s.h dst v K) :
    ∃ s', K s' ∧ Rel cx β s' (a.put dst (v.ren β)) w := by
  cases dst with
  | none => exact ⟨s, h, hr⟩
  | some d =>
    obtain ⟨hlt, h⟩ := putK_some h
    · have hlt : d < cx.N := by have := Nat.le_of_ble_eq_true hlt; omega
      refine ⟨_, h, ⟨hr.dfr, by simp [Act.put, hr.sz], ⟨fun i u hu => ?_⟩, hr.ft, ⟨fun i u hu => ?_, hr.wf.h⟩, hr.ml, hr.pin, hr.os, hr.tape, hr.out, hr.hs, hr.fr, hr.ow, hr.kn⟩⟩
      · unfold find at hu
        simp only [Act.put]
        rw [Array.getElem?_setIfInBounds]
        by_cases hd : d = i
        · rw [if_pos hd] at hu ⊢
          cases hu
          rw [if_pos (by rw [hr.sz]; omega)]
        · rw [if_neg hd] at hu ⊢
          exact hr.tm.tm i u hu
      · unfold find at hu
        by_cases hd : d = i
        · rw [if_pos hd] at hu; cases hu; exact hb
        · rw [if_neg hd] at hu; exact hr.wf.t i u hu
theorem Ck.holds_block {c : Ck} {w w' : World} {A : Nat × Nat × Fl} (h : c.holds β w A) (hb : w'.heap[A.1]? = w.heap[A.1]?) : c.holds β w' A := by
  cases c with
  | no => trivial
  | cells own l => obtain ⟨cur, e, fz, h1, rest⟩ := h; exact ⟨cur, e, fz, hb.trans h1, rest⟩
  | row own k e z n c f =>
    obtain ⟨hnc, hnil, hk, hl, hblk⟩ := h
    exact ⟨hnc, hnil, hk, hl, fun h0 => let ⟨cur, te, fz, h1, rest⟩ := hblk h0; ⟨cur, te, fz, hb.trans h1, rest⟩⟩
  | map own k ck n f => obtain ⟨⟨es, h1, h2⟩, h3⟩ := h; exact ⟨⟨es, hb.trans h1, h2⟩, h3⟩
  | iter m x ck seen => exact ⟨h.1, hb.trans h.2⟩
theorem Ck.holds_lt {c : Ck} {w : World} {A : Nat × Nat × Fl} (h : c.holds β w A) (hk : c.known = true) : A.1 < w.heap.size := by
  cases c with
  | no => cases hk
  | cells own l => obtain ⟨cur, e, fz, h1, rest⟩ := h; exact (Array.getElem?_eq_some_iff.1 h1).1
  | row own k e z n c f =>
    obtain ⟨hnc, hnil, hkf, hl, hblk⟩ := h
    obtain ⟨cur, te, fz, h1, rest⟩ := hblk (by intro e; subst e; simp [Ck.known] at hk)
    exact (Array.getElem?_eq_some_iff.1 h1).1
  | map own k ck n f => obtain ⟨⟨es, h1, _⟩, _⟩ := h; exact (Array.getElem?_eq_some_iff.1 h1).1
  | iter m x ck seen => exact (Array.getElem?_eq_some_iff.1 h.2).1
theorem Ck.owned_known {c : Ck} (h : c.owned = true) : c.known = true := by
  cases c <;> simp_all [Ck.owned, Ck.known]
theorem Ck.holds_unknown {c : Ck} {β β' : Nm} {n : Nat} {w w' : World} {A : Nat × Nat × Fl} (hk : c.known = false) (h : c.holds β w A) (hb : c.bel n) (hag : Agree n β β') : c.holds β' w' A := by
  cases c with
  | no => trivial
  | cells own l => cases hk
  | row own k e z m c f =>
    obtain ⟨hnc, hnil, hkf, hl, hblk⟩ := h
    exact ⟨hnc, hnil, hkf, hl, fun h0 => by simp [Ck.known, h0] at hk⟩
  | map own k ck n f => cases hk
  | iter m x ck seen => cases hk
theorem Ck.no_of {c : Ck} (h : c.known = false) : c = .no ∨ ∃ own k e z m f, c = .row own k e z m 0 f := by
  cases c with
  | no => exact .inl rfl
  | cells own l => cases h
  | row own k e z m c f =>
    right
    have : c = 0 := by simpa [Ck.known] using h
    subst this
    exact ⟨own, k, e, z, m, f, rfl⟩
  | map own k ck n f => cases h
  | iter m x ck seen => cases h
theorem Fits.one {h h' : List Fam} {β' : Nm} {w' : World} (hf : Fits β h w) (f0 x0 n : Nat) (hag : Agree n β β') (hh : (get h' f0 x0).holds β' w' (β' f0 x0))
    (hrest : ∀ f x, (f, x) ≠ (f0, x0) → get h' f x = .no ∨ (get h' f x = get h f x ∧ β' f x = β f x ∧ (get h f x).bel n ∧ ((get h f x).known = true → w'.heap[(β f x).1]? = w.heap[(β f x).1]? ∧ ((get h' f0 x0).known = true → (β f x).1 ≠ (β' f0 x0).1)))) : Fits β' h' w' := by
  constructor
  · intro f x
    by_cases he : (f, x) = (f0, x0)
    · cases he; exact hh
    · rcases hrest f x he with h0 | ⟨h1, h2, h3, h4⟩
      · rw [h0]; trivial
      · rw [h1, h2]
        cases hk : (get h f x).known with
        | false =>
          exact Ck.holds_unknown hk (hf.ck f x) h3 hag
        | true => exact Ck.holds_agree h3 hag (Ck.holds_block (hf.ck f x) (h4 hk).1)
  · intro f x g y hne ho hk
    by_cases he : (f, x) = (f0, x0)
    · cases he
      have hg : (g, y) ≠ (f0, x0) := fun e => hne e.symm
      rcases hrest g y hg with h0 | ⟨h1, h2, h3, h4⟩
      · rw [h0] at hk; cases hk
      · rw [h1] at hk; rw [h2]; exact fun e => (h4 hk).2 (Ck.owned_known ho) e.symm
    · rcases hrest f x he with h0 | ⟨h1, h2, h3, h4⟩
      · rw [h0] at ho; cases ho
      · rw [h1] at ho
        have hkn := Ck.owned_known ho
        by_cases he' : (g, y) = (f0, x0)
        · cases he'; rw [h2]; exact (h4 hkn).2 hk
        · rcases hrest g y he' with g0 | ⟨g1, g2, g3, g4⟩
          · rw [g0] at hk; cases hk
          · rw [g1] at hk; rw [h2, g2]; exact hf.sep f x g y hne ho hk
theorem Rel.step (hr : Rel cx β s a w) {β' : Nm} {h' : List Fam} {w' : World} (hlen : s.h.length ≤ h'.length) (hag : Agree s.h.length β β') (hft : Fits β' h' w') (hwf : ∀ f x, (get h' f x).bel h'.length)
    (os : w'.os = w.os) (tape : w'.tape = w.tape) (out : w'.output = w.output) (hs : w.heap.size ≤ w'.heap.size)
    (fr : ∀ b, b < w.heap.size → (∀ f x, (get s.h f x).owned = true → (β f x).1 ≠ b) → w'.heap[b]? = w.heap[b]?)
    (ow : ∀ f x, (get h' f x).owned = true → (∃ g y, (get s.h g y).owned = true ∧ (β g y).1 = (β' f x).1) ∨ w.heap.size ≤ (β' f x).1)
    (kn : ∀ f x, (get h' f x).known = true → (∃ g y, (get s.h g y).known = true ∧ (β g y).1 = (β' f x).1) ∨ w.heap.size ≤ (β' f x).1) : Rel cx β' ⟨s.t, h'⟩ a w' where
  dfr := hr.dfr
  sz := hr.sz
  tm := ⟨fun i v hv => by rw [hr.tm.tm i v hv, T.ren_agree (hr.wf.t i v hv) hag]⟩
  ft := hft
  wf := ⟨fun i v hv => T.bel_mono (hr.wf.t i v hv) hlen, hwf⟩
  ml := Nat.le_trans hr.ml hlen
  pin := fun f x hf => by rw [← hag f x (Nat.lt_of_lt_of_le hf hr.ml)]; exact hr.pin f x hf
  os := os.trans hr.os
  tape := tape.trans hr.tape
  out := out.trans hr.out
  hs := Nat.le_trans hr.hs hs
  fr := fun b hb hn => by
    rw [fr b (Nat.lt_of_lt_of_le hb hr.hs) (fun f x ho e => ?_), hr.fr b hb hn]
    rcases hr.ow f x ho with h1 | h1
    · exact hn (e ▸ h1)
    · omega
  ow := fun f x ho => by
    rcases ow f x ho with ⟨g, y, hg, e⟩ | h1
    · rw [← e]; exact hr.ow g y hg
    · exact .inr (Nat.le_trans hr.hs h1)
  kn := fun f x ho => by
    rcases kn f x ho with ⟨g, y, hg, e⟩ | h1
    · rw [← e]; exact hr.kn g y hg
    · exact .inr (Nat.le_trans hr.hs h1)
theorem addK_of : ∀ {h : List Fam} {ck : Ck} {K : Nat → List Fam → Prop}, addK h ck K → K h.length (h ++ [.one ck])
  | [], _, _, h => h
  | m :: l, ck, K, h => addK_of (h := l) (K := fun i l' => K (i + 1) (m :: l')) h
theorem get_lt {h : List Fam} {f x : Nat} (hk : get h f x ≠ .no) : f < h.length := by
  unfold get at hk
  cases hm : h[f]? with
  | none => rw [hm] at hk; exact absurd rfl hk
  | some m => exact (List.getElem?_eq_some_iff.1 hm).1
theorem get_add_lt {h : List Fam} {m : Fam} {f : Nat} (x : Nat) (hf : f < h.length) : get (h ++ [m]) f x = get h f x := by
  unfold get; rw [List.getElem?_append_left hf]
theorem get_add_new {h : List Fam} {ck : Ck} : get (h ++ [.one ck]) h.length 0 = ck := by
  unfold get; simp [Fam.at]
theorem get_add_no {h : List Fam} {ck : Ck} {f x : Nat} (hf : h.length ≤ f) (hne : (f, x) ≠ (h.length, 0)) : get (h ++ [.one ck]) f x = .no := by
  unfold get
  by_cases he : f = h.length
  · subst he
    rw [List.getElem?_append_right (Nat.le_refl _)]
    cases x with
    | zero => exact absurd rfl hne
    | succ x => simp [Fam.at]
  · rw [List.getElem?_eq_none (by simp; omega)]
def bind (β : Nm) (n : Nat) (A : Nat × Nat × Fl) : Nm := fun f x => if f = n ∧ x = 0 then A else β f x
theorem bind_agree (β : Nm) (n : Nat) (A : Nat × Nat × Fl) : Agree n β (bind β n A) := fun f x hf => by
  unfold bind; rw [if_neg (by omega)]
theorem bind_new (β : Nm) (n : Nat) (A : Nat × Nat × Fl) : bind β n A n 0 = A := by unfold bind; rw [if_pos ⟨rfl, rfl⟩]
theorem Rel.alloc (hr : Rel cx β s a w) {ck : Ck} {o : Obj} (hh : ck.holds β (w.alloc o) (w.heap.size, 0, .live)) (hb : ck.bel s.h.length) :
    Rel cx (bind β s.h.length (w.heap.size, 0, .live)) ⟨s.t, s.h ++ [.one ck]⟩ a (w.alloc o) := by
  have hag := bind_agree β s.h.length (w.heap.size, 0, .live)
  have keep : ∀ b, b < w.heap.size → (w.alloc o).heap[b]? = w.heap[b]? := fun b hb => by
    show (w.heap.push o)[b]? = _
    rw [Array.getElem?_push_lt hb, Array.getElem?_eq_getElem hb]
  refine hr.step (by simp) hag ?_ ?_ rfl rfl rfl (by simp) (fun b hb _ => keep b hb) ?_ ?_
  · refine hr.ft.one s.h.length 0 s.h.length hag ?_ ?_
    · rw [get_add_new, bind_new]
      exact Ck.holds_agree hb hag hh
    · intro f x hne
      by_cases hf : f < s.h.length
      · right
        refine ⟨get_add_lt x hf, (hag f x hf).symm, hr.wf.h f x, fun hk => ?_⟩
        have hlt := Ck.holds_lt (hr.ft.ck f x) hk
        rw [bind_new]
        exact ⟨keep _ hlt, fun _ => by simp; omega⟩
      · left; exact get_add_no (by omega) hne
  · intro f x
    by_cases he : (f, x) = (s.h.length, 0)
    · cases he; rw [get_add_new]; exact Ck.bel_mono hb (by simp)
    · by_cases hf : f < s.h.length
      · rw [get_add_lt x hf]; exact Ck.bel_mono (hr.wf.h f x) (by simp)
      · rw [get_add_no (by omega) he]; trivial
  · intro f x ho
    by_cases he : (f, x) = (s.h.length, 0)
    · cases he; right; rw [bind_new]; exact Nat.le_refl _
    · by_cases hf : f < s.h.length
      · rw [get_add_lt x hf] at ho
        left; exact ⟨f, x, ho, by rw [hag f x hf]⟩
      · rw [get_add_no (by omega) he] at ho; cases ho
  · intro f x ho
    by_cases he : (f, x) = (s.h.length, 0)
    · cases he; right; rw [bind_new]; exact Nat.le_refl _
    · by_cases hf : f < s.h.length
      · rw [get_add_lt x hf] at ho
        left; exact ⟨f, x, ho, by rw [hag f x hf]⟩
      · rw [get_add_no (by omega) he] at ho; cases ho
theorem Rel.addNil (hr : Rel cx β s a w) {own k : Bool} {e z : Nat} {f : Nat → List C} (A : Nat × Nat × Fl) :
    Rel cx (bind β s.h.length A) ⟨s.t, s.h ++ [.one (.row own k e z 0 0 f)]⟩ a w := by
  have hag := bind_agree β s.h.length A
  have hknew : (Ck.row own k e z 0 0 f).known = false := rfl
  have honew : (Ck.row own k e z 0 0 f).owned = false := by cases own <;> rfl
  refine hr.step (by simp) hag ?_ ?_ rfl rfl rfl (Nat.le_refl _) (fun b hb _ => rfl) ?_ ?_
  · refine hr.ft.one s.h.length 0 s.h.length hag ?_ ?_
    · rw [get_add_new, bind_new]
      exact ⟨Nat.le_refl _, fun _ => rfl, fun _ i hi => by omega, fun i hi => by omega, fun h => absurd rfl h⟩
    · intro f x hne
      by_cases hf : f < s.h.length
      · right
        refine ⟨get_add_lt x hf, (hag f x hf).symm, hr.wf.h f x, fun hk => ⟨rfl, fun hn => ?_⟩⟩
        rw [get_add_new] at hn
        cases hn
      · left; exact get_add_no (by omega) hne
  · intro f x
    by_cases he : (f, x) = (s.h.length, 0)
    · cases he; rw [get_add_new]; exact fun i hi => by omega
    · by_cases hf : f < s.h.length
      · rw [get_add_lt x hf]; exact Ck.bel_mono (hr.wf.h f x) (by simp)
      · rw [get_add_no (by omega) he]; trivial
  · intro f x ho
    by_cases he : (f, x) = (s.h.length, 0)
    · cases he; rw [get_add_new, honew] at ho; cases ho
    · by_cases hf : f < s.h.length
      · rw [get_add_lt x hf] at ho
        left; exact ⟨f, x, ho, by rw [hag f x hf]⟩
      · rw [get_add_no (by omega) he] at ho; cases ho
  · intro f x ho
    by_cases he : (f, x) = (s.h.length, 0)
    · cases he; rw [get_add_new, hknew] at ho; cases ho
    · by_cases hf : f < s.h.length
      · rw [get_add_lt x hf] at ho
        left; exact ⟨f, x, ho, by rw [hag f x hf]⟩
      · rw [get_add_no (by omega) he] at ho; cases ho
theorem updK_of : ∀ {h : List Fam} {f x : Nat} {ck : Ck} {K : List Fam → Prop}, updK h f x ck K → ∃ h', K h' ∧ h'.length = h.length ∧ get h' f x = ck ∧ ∀ g y, (g, y) ≠ (f, x) → get h' g y = get h g y
  | [], f, x, ck, K, h => by cases f <;> exact h.elim
  | m :: l, 0, x, ck, K, h => by
    unfold updK Fam.updK at h
    cases m with
    | one q =>
      cases x with
      | zero =>
        refine ⟨_, h, by simp, by simp [get, Fam.at], fun g y hne => ?_⟩
        cases g with
        | zero => cases y with
          | zero => exact absurd rfl hne
          | succ y => simp [get, Fam.at]
        | succ g => simp [get]
      | succ x => exact h.elim
    | many g =>
      refine ⟨_, h, by simp, by simp [get, Fam.at], fun g y hne => ?_⟩
      cases g with
      | zero =>
        have : y ≠ x := fun e => hne (by rw [e])
        simp [get, Fam.at, this]
      | succ g => simp [get]
  | m :: l, f + 1, x, ck, K, h => by
    obtain ⟨l', hk, h1, h2, h3⟩ := updK_of (h := l) (K := fun l' => K (m :: l')) h
    refine ⟨_, hk, by simp [h1], by simpa [get] using h2, fun g y hne => ?_⟩
    cases g with
    | zero => simp [get]
    | succ g => simpa [get] using h3 g y (fun e => hne (by cases e; rfl))
theorem Rel.write (hr : Rel cx β s a w) {f x : Nat} {ck : Ck} (ho : (get s.h f x).owned = true) (hck : ck.owned = true) {h' : List Fam} (hlen : h'.length = s.h.length) (h1 : get h' f x = ck) (h2 : ∀ g y, (g, y) ≠ (f, x) → get h' g y = get s.h g y)
    {w' : World} (hh : ck.holds β w' (β f x)) (hb : ck.bel s.h.length) (os : w'.os = w.os) (tape : w'.tape = w.tape) (out : w'.output = w.output) (hs : w'.heap.size = w.heap.size)
    (hot : ∀ b, b ≠ (β f x).1 → w'.heap[b]? = w.heap[b]?) : Rel cx β ⟨s.t, h'⟩ a w' := by
  have hag : Agree s.h.length β β := fun _ _ _ => rfl
  refine hr.step (by omega) hag ?_ ?_ os tape out (by omega) (fun b _ hne => hot b (fun e => hne f x ho e.symm)) ?_ ?_
  · refine hr.ft.one f x s.h.length hag (by rw [h1]; exact hh) ?_
    intro g y hne
    right
    refine ⟨h2 g y hne, rfl, hr.wf.h g y, fun hk => ?_⟩
    have := hr.ft.sep f x g y (fun e => hne e.symm) ho hk
    exact ⟨hot _ (fun e => this e.symm), fun _ e => this e.symm⟩
  · intro g y
    rw [hlen]
    by_cases he : (g, y) = (f, x)
    · cases he; rw [h1]; exact hb
    · rw [h2 g y he]; exact hr.wf.h g y
  · intro g y hg
    left
    by_cases he : (g, y) = (f, x)
    · cases he; exact ⟨f, x, ho, rfl⟩
    · rw [h2 g y he] at hg; exact ⟨g, y, hg, rfl⟩
  · intro g y hg
    left
    by_cases he : (g, y) = (f, x)
    · cases he; exact ⟨f, x, Ck.owned_known ho, rfl⟩
    · rw [h2 g y he] at hg; exact ⟨g, y, hg, rfl⟩
end Go.X
set_option linter.constructorNameAsVariable false
set_option linter.unusedVariables false
namespace Go.X
def T.cellsK (v : T) (K : List C → Prop) : Prop :=
  match v with
  | .c x => K [x]
  | .a l => K l
  | .t _ => False
def ifB (b : Bool) (A : Prop) : Prop :=
  match b with
  | true => A
  | false => False
def flatK (k : Bool) (vs : List C) (A : Prop) : Prop :=
  match k with
  | true => A
  | false => ifB (vs.all C.flat) A
def chunkOf (z : Nat) (l : List C) : Nat → List C := fun i => (l.drop (i * z)).take z
def splF (n m : Nat) (f : Nat → List C) (o : Nat) (g : Nat → List C) : Nat → List C := fun i => if i < n then f i else if i < n + m then g (o + (i - n)) else f i
def storeK (tb : Tb) (h : List Fam) (t : Nat) (addr : C) (v : T) (K : List Fam → Prop) : Prop :=
  td tb t fun d => v.cellsK fun vs => ifB (Nat.beq vs.length d.size) (match addr with
    | .p f x o => getK h f x fun ck => match ck with
      | .cells true l => lay l o vs fun l' => updK h f x (.cells true l') K
      | _ => False
    | .pe f x z e j => getK h f x fun ck => match ck with
      | .row true k et z' n c g => z' = z ∧ (match Nat.ble d.size z with
        | true => e < n ∧ flatK k vs (lay (g e) j vs fun l' => updK h f x (.row true k et z' n c (fun i => if i = e then l' else g i)) K)
        | false => match d.sh with
          | .array m _ => (j = 0 ∧ e + m ≤ n ∧ m * z = d.size ∧ 0 < z ∧ 0 < m) ∧ flatK k vs (updK h f x (.row true k et z' n c (splF e m g 0 (chunkOf z vs))) K)
          | _ => False)
      | _ => False
    | _ => False)
def allocK (tb : Tb) (t : Nat) (K : List C → Prop) : Prop :=
  td tb t fun d => ifB d.zok (K d.zero)
def fillK (z : Nat) : List C → List (Nat × T) → (List C → Prop) → Prop
  | l, [], K => K l
  | l, (i, v) :: r, K => v.cellsK fun vs => ifB (Nat.beq vs.length z) (lay l (i * z) vs fun l' => fillK z l' r K)
def partsK (s : S) : List (Nat × Operand) → (List (Nat × T) → Prop) → Prop
  | [], K => K []
  | (i, x) :: r, K => ev s x fun v => partsK s r fun l => K ((i, v) :: l)
def fillS (fl : List (Nat × Nat × Nat)) : List C → List (Nat × T) → (List C → Prop) → Prop
  | l, [], K => K l
  | l, (i, v) :: r, K => nth fl i fun p => v.cellsK fun vs => ifB (Nat.beq vs.length p.2.2 && Nat.blt 0 p.2.2) (lay l p.1 vs fun l' => fillS fl l' r K)
def reps : Nat → List C → List C
  | 0, _ => []
  | n + 1, l => l ++ reps n l
def appF (n : Nat) (f : Nat → List C) (o : Nat) (g : Nat → List C) : Nat → List C := fun i => if i < n then f i else g (o + (i - n))
def appendK (d : Td) (e : Nat) (h : List Fam) (v x : C) (K : T → List Fam → Prop) : Prop :=
  ifB d.zok (ifB (Nat.blt 0 d.size) (match x with
    | .sl f2 x2 z2 o2 m c2 => z2 = d.size ∧ getK h f2 x2 fun ck2 => match ck2 with
      | .row _ k2 _ z2' n2 _ g => z2' = d.size ∧ o2 + m ≤ n2 ∧ (match v with
        | .nils => (m ≤ maxLen ∧ m * d.bytes ≤ 140737488355328) ∧ (∀ c', addK h (.row true k2 e d.size m c' (fun i => g (o2 + i))) fun nf h' => m ≤ c' → K (.c (.sl nf 0 d.size 0 m c')) h')
        | .sl f x z o n c => getK h f x fun ck => match ck with
          | .row own k e' z' n' c' fr => (z = d.size ∧ z' = d.size) ∧ (n' ≤ c' → (n + m ≤ maxLen ∧ (n + m) * d.bytes ≤ 140737488355328) ∧
              ((own = true ∧ (e' = e ∧ n' = n ∧ c' = c ∧ o = 0) ∧ ∀ c'', updK h f x .no fun h' => addK h' (.row true (k || k2) e d.size (n + m) c'' (appF n fr o2 g)) fun nf h'' => n + m ≤ c'' → K (.c (.sl nf 0 d.size 0 (n + m) c'')) h'') ∨
               ((c = 0 ∧ n = 0 ∧ o ≤ n') ∧ ∀ c'', addK h (.row true (k || k2) e d.size m c'' (fun i => g (o2 + i))) fun nf h' => m ≤ c'' → K (.c (.sl nf 0 d.size 0 m c'')) h') ∨
               ((own = true ∧ e' = e ∧ o = 0 ∧ c = n ∧ n ≤ n') ∧ ∀ c'', updK h f x .no fun h' => addK h' (.row true (k || k2) e d.size (n + m) c'' (appF n fr o2 g)) fun nf h'' => n + m ≤ c'' → K (.c (.sl nf 0 d.size 0 (n + m) c'')) h'') ∨
               ((own = true ∧ e' = e ∧ o = 0 ∧ n ≤ n' ∧ c' = c ∧ n + m ≤ c ∧ c ≠ 0) ∧ updK h f x (.row true (k || k2) e' z' (max n' (n + m)) c' (splF n m fr o2 g)) fun h' => K (.c (.sl f x d.size 0 (n + m) c)) h') ∨
               ((own = true ∧ e' = e ∧ o + n ≤ n' ∧ o + c ≤ c' ∧ n ≤ c) ∧ ∀ c'', updK h f x .no fun h' => addK h' (.row true (k || k2) e d.size (n + m) c'' (appF n (fun i => fr (o + i)) o2 g)) fun nf h'' => n + m ≤ c'' → K (.c (.sl nf 0 d.size 0 (n + m) c'')) h'')))
          | _ => False
        | _ => False)
      | _ => False
    | .nils => match v with
      | .nils => K (.c .nils) h
      | .sl f x z o n c => n ≤ c ∧ K (.c (.sl f x z o n c)) h
      | _ => False
    | _ => False))
def clrF (o n : Nat) (zero : List C) (f : Nat → List C) : Nat → List C := fun i => if o ≤ i ∧ i < o + n then zero else f i
def clearK (d : Td) (h : List Fam) (v : C) (K : T → List Fam → Prop) : Prop :=
  ifB d.zok (match v with
  | .nils => K (.t []) h
  | .sl f x z o n _ => getK h f x fun ck => match ck with
    | .row true k e z' n' c' fr => (z = d.size ∧ z' = d.size ∧ o + n ≤ n') ∧ updK h f x (.row true k e z' n' c' (clrF o n d.zero fr)) fun h' => K (.t []) h'
    | _ => False
  | _ => False)
def keyOfK (sh : Sh) (c : C) (K : Key → Prop) : Prop :=
  match c with
  | .i k n => match sh with
    | .int k' => sameK k .i64 (sameK k' .i64 (K (.i n)))
    | _ => False
  | .s b => match sh with
    | .str => K (.s b)
    | _ => False
  | _ => False
def Key.sk (a b : Key) : Bool :=
  match a with
  | .i _ => match b with
    | .i _ => true
    | .s _ => false
  | .s _ => match b with
    | .i _ => false
    | .s _ => true
def Key.c (a : Key) : C :=
  match a with
  | .i n => .i .i64 n
  | .s b => .s b
def retE (ok : Bool) (e : E) (r : C) (K : T → Prop) : Prop :=
  match ok with
  | true => K (.t [e, .c r])
  | false => e.toT K
def zeroEK (d : Td) (K : E → Prop) : Prop :=
  ifB d.zok (match d.sh with
    | .struct _ => K (.a d.zero)
    | .array _ _ => K (.a d.zero)
    | _ => match d.zero with
      | [] => False
      | c :: r => match r with
        | [] => K (.c c)
        | _ :: _ => False)
def T.toEK (v : T) (K : E → Prop) : Prop :=
  match v with
  | .c x => K (.c x)
  | .a l => K (.a l)
  | .t _ => False
def flatE (k : Bool) (e : E) (A : Prop) : Prop :=
  match k with
  | true => A
  | false => ifB e.flat A
def mapShK (d : Td) (K : Nat → Nat → Prop) : Prop :=
  match d.sh with
  | .map k e => K k e
  | _ => False
def findK (n : Nat) (g : Nat → Nat × Key × E) (key : Key) (Y : Nat → Prop) (N : Prop) : Prop :=
  (∀ i, i < n → (g i).2.1.sk key = true) ∧ Both (∀ i, i < n → (g i).2.1 = key → Y i) ((∀ i, i < n → (g i).2.1 ≠ key) → N)
def lookK (tb : Tb) (s : S) (t : Nat) (m kc : C) (ok : Bool) (K : T → Prop) : Prop :=
  td tb t fun d => mapShK d fun kt et => td tb kt fun kd => keyOfK kd.sh kc fun key => td tb et fun ed => match m with
    | .nilm => zeroEK ed fun z => retE ok z .ff K
    | .mp f x => getK s.h f x fun ck => match ck with
      | .map _ _ _ n g => findK n g key (fun i => retE ok (g i).2.2 .tt K) (zeroEK ed fun z => retE ok z .ff K)
      | _ => False
    | _ => False
def mapSetK (tb : Tb) (h : List Fam) (t : Nat) (m kc : C) (v : T) (K : List Fam → Prop) : Prop :=
  td tb t fun d => mapShK d fun kt _ => td tb kt fun kd => keyOfK kd.sh kc fun key => v.toEK fun e => match m with
    | .mp f x => getK h f x fun ck => match ck with
      | .map w k c n g => match w with
        | true => flatE k e (findK n g key (fun i => updK h f x (.map true k c n (fun j => if j = i then ((g i).1, key, e) else g j)) K)
            (updK h f x (.map true k (c + 1) (n + 1) (fun j => if j = n then (c, key, e) else g j)) K))
        | false => False
      | _ => False
    | _ => False
def mapDelK (tb : Tb) (h : List Fam) (t : Nat) (m kc : C) (K : T → List Fam → Prop) : Prop :=
  td tb t fun d => mapShK d fun kt _ => td tb kt fun kd => keyOfK kd.sh kc fun key => match m with
    | .nilm => K (.t []) h
    | .mp f x => getK h f x fun ck => match ck with
      | .map w k c n g => match w with
        | true => findK n g key (fun i => updK h f x (.map true k c (n - 1) (fun j => if j < i then g j else g (j + 1))) fun h' => K (.t []) h') (K (.t []) h)
        | false => False
      | _ => False
    | _ => False
def rangeK (tb : Tb) (h : List Fam) (t : Nat) (m : C) (K : T → List Fam → Prop) : Prop :=
  td tb t fun d => mapShK d fun _ _ => match m with
    | .mp f x => getK h f x fun ck => match ck with
      | .map _ _ c _ _ => addK h (.iter f x c []) fun n h' => K (.c (.p n 0 0)) h'
      | _ => False
    | _ => False
def nextK (h : List Fam) (it : C) (K : T → List Fam → Prop) : Prop :=
  match it with
  | .p f x o => match o with
    | 0 => getK h f x fun ck => match ck with
      | .iter m y c seen => getK h m y fun ck' => match ck' with
        | .map _ _ c' n g => c' = c ∧ Both (∀ i, i < n → (g i).1 ∉ seen → updK h f x (.iter m y c (seen ++ [(g i).1])) fun h' => K (.t [.c .tt, .c (g i).2.1.c, (g i).2.2]) h') ((∀ i, i < n → (g i).1 ∈ seen) → K (.t [.c .ff]) h)
        | _ => False
      | _ => False
    | _ + 1 => False
  | _ => False
def entryK (h : List Fam) (it : C) (K : T → List Fam → Prop) : Prop :=
  match it with
  | .p f x o => match o with
    | 0 => getK h f x fun ck => match ck with
      | .iter m y c seen => getK h m y fun ck' => match ck' with
        | .map _ _ c' n g => c' = c ∧ ∃ i, i < n ∧ seen.getLast? = some (g i).1 ∧ K (.t [.c (g i).2.1.c, (g i).2.2]) h
        | _ => False
      | _ => False
    | _ + 1 => False
  | _ => False
def flatSh0 (sh : Sh) : Bool :=
  match sh with
  | .int _ => true
  | .bool => true
  | .str => true
  | _ => false
def flatSh1 (tb : Tb) (sh : Sh) : Bool :=
  match sh with
  | .struct fl => fl.all fun p => match (tb.find? fun q => Nat.beq q.1 p.2.1) with
    | some q => flatSh0 q.2.sh
    | none => false
  | sh => flatSh0 sh
def flatShB (tb : Tb) (sh : Sh) : Bool :=
  match sh with
  | .struct fl => fl.all fun p => match (tb.find? fun q => Nat.beq q.1 p.2.1) with
    | some q => flatSh1 tb q.2.sh
    | none => false
  | sh => flatSh0 sh
def makeMapK (tb : Tb) (h : List Fam) (t : Nat) (r : Option C) (K : T → List Fam → Prop) : Prop :=
  td tb t fun d => mapShK d fun _ et => td tb et fun ed =>
    let ok := addK h (.map true (!flatShB tb ed.sh) 0 0 (fun _ => (0, .i 0, .c .nilp))) fun n h' => K (.c (.mp n 0)) h'
    match r with
    | none => ok
    | some c => match c with
      | .i _ _ => ok
      | _ => False
def shAt (tb : Tb) (t : Nat) : Sh :=
  match tb with
  | [] => .other
  | (j, d) :: r => match Nat.beq j t with
    | true => d.sh
    | false => shAt r t
def newK (tb : Tb) (t : Nat) (vs : List C) (h : List Fam) (K : T → List Fam → Prop) : Prop :=
  match shAt tb t with
  | .array n e => td tb e fun d => ifB (Nat.beq vs.length (n * d.size) && Nat.blt 0 n && Nat.ble n 16777216) (addK h (.row true (!(vs.all C.flat)) t d.size n n (chunkOf d.size vs)) fun nf h' => K (.c (.pe nf 0 d.size 0 0)) h')
  | _ => addK h (.cells true vs) fun n h' => K (.c (.p n 0 0)) h'
def makeSK (tb : Tb) (d : Td) (e : Nat) (h : List Fam) (l c : C) (K : T → List Fam → Prop) : Prop :=
  match l with
  | .i _ n => match c with
    | .i _ m => ifB d.zok ((0 ≤ n ∧ n ≤ m ∧ m ≤ 281474976710656 ∧ d.bytes * m ≤ 281474976710656) ∧
        addK h (.row true (!flatShB tb d.sh) e d.size m.toNat m.toNat (fun _ => d.zero)) fun nf h' => K (.c (.sl nf 0 d.size 0 n.toNat m.toNat)) h')
    | _ => False
  | _ => False
def xval (tb : Tb) (s : S) (op : Op) (K : T → List Fam → Prop) : Prop :=
  match s with
  | ⟨t0, h0⟩ => match op with
  | .box t x => ev ⟨t0, h0⟩ x fun v => v.cellsK fun vs => newK tb t vs h0 K
  | .alloc t => allocK tb t fun vs => newK tb t vs h0 K
  | .makeSlice t l c => evC ⟨t0, h0⟩ l fun l => evC ⟨t0, h0⟩ c fun c => td tb t fun d => match d.sh with
    | .slice e => td tb e fun d => makeSK tb d e h0 l c K
    | _ => False
  | .buildSlice t len parts => td tb t fun d => match d.sh with
    | .slice e => td tb e fun d => ifB (Nat.ble (len * d.size) 16777216 && Nat.ble len 16777216) (ifB d.zok (partsK ⟨t0, h0⟩ parts.toList fun l => fillK d.size (reps len d.zero) l fun cs =>
        addK h0 (.row true (!(cs.all C.flat)) e d.size len len (chunkOf d.size cs)) fun n h' => K (.c (.sl n 0 d.size 0 len len)) h'))
    | _ => False
  | .build t parts => td tb t fun d => match d.sh with
    | .struct fl => ifB (fl.all fun p => tb.any fun q => Nat.beq q.1 p.2.1) (ifB d.zok (partsK ⟨t0, h0⟩ parts.toList fun l => fillS fl d.zero l fun cs => K (.a cs) h0))
    | .array _ e => td tb e fun d' => ifB d.zok (partsK ⟨t0, h0⟩ parts.toList fun l => fillK d'.size d.zero l fun cs => K (.a cs) h0)
    | _ => False
  | .call { callee := .builtin .append, args, argTypes } => match args.toList, argTypes.toList with
    | [x, y], [t, t'] => ifB (Nat.beq t t') (evC ⟨t0, h0⟩ x fun v => evC ⟨t0, h0⟩ y fun u => td tb t fun d => match d.sh with
      | .slice e => td tb e fun d => appendK d e h0 v u K
      | _ => False)
    | _, _ => False
  | .call { callee := .builtin .clear, args, argTypes } => match args.toList, argTypes.toList with
    | [x], [t] => evC ⟨t0, h0⟩ x fun v => td tb t fun d => match d.sh with
      | .slice e => td tb e fun d => clearK d h0 v K
      | _ => False
    | _, _ => False
  | .call { callee := .builtin .delete, args, argTypes } => match args.toList, argTypes.toList with
    | [x, y], t :: _ => evC ⟨t0, h0⟩ x fun m => evC ⟨t0, h0⟩ y fun kc => mapDelK tb h0 t m kc K
    | _, _ => False
  | .lookup t x y ok => evC ⟨t0, h0⟩ x fun m => evC ⟨t0, h0⟩ y fun kc => lookK tb ⟨t0, h0⟩ t m kc ok fun v => K v h0
  | .range t x => evC ⟨t0, h0⟩ x fun m => rangeK tb h0 t m K
  | .next x str => match str with
    | false => evC ⟨t0, h0⟩ x fun it => nextK h0 it K
    | true => False
  | .entry x => evC ⟨t0, h0⟩ x fun it => entryK h0 it K
  | .makeMap t r => evO ⟨t0, h0⟩ r fun r => makeMapK tb h0 t r K
  | op => xpure tb ⟨t0, h0⟩ op fun v => K v h0
variable {cx : Cx} {β : Nm} {s : S} {a : Act} {w : World} {P : Program} {tb : Tb}
theorem ifB_of {b : Bool} {A : Prop} (h : ifB b A) : b = true ∧ A := by
  cases b with
  | true => exact ⟨rfl, h⟩
  | false => exact h.elim
theorem C.ren_cells (v : C) : (v.ren β).cells = #[v.ren β] := by cases v <;> first | rfl | (rw [sl_adr]; rfl)
theorem C.ren_one (v : C) : (v.ren β).oneCell' = true := by cases v <;> first | rfl | (rw [sl_adr]; rfl)
theorem cellsK_of {v : T} {K : List C → Prop} (h : v.cellsK K) : ∃ vs, (v.ren β).cells = renL β vs ∧ (∀ n, v.bel n → ∀ c ∈ vs, c.bel n) ∧ K vs := by
  cases v with
  | c x => exact ⟨[x], by simp [T.ren, C.ren_cells, renL], fun n hn c hc => by simp at hc; subst hc; exact hn, h⟩
  | a l => exact ⟨l, rfl, fun n hn c hc => hn c hc, h⟩
  | t l => exact h.elim
theorem renL_one (l : List C) : ∀ u ∈ (renL β l).toList, u.oneCell' = true := by
  intro u hu
  simp only [renL, List.mem_map] at hu
  obtain ⟨c, _, rfl⟩ := hu
  exact c.ren_one
theorem lay_of {α : Type} : ∀ {l : List α} {o : Nat} {vs : List α} {K : List α → Prop}, lay l o vs K → ∃ r, r = l.take o ++ vs ++ l.drop (o + vs.length) ∧ (o + vs.length ≤ l.length ∨ vs = []) ∧ K r
  | l, o, [], K, h => ⟨l, by simp, .inr rfl, by unfold lay at h; cases l <;> cases o <;> exact h⟩
  | [], o, v :: vs, K, h => by cases o <;> exact h.elim
  | a :: l, 0, v :: vs, K, h => by
    obtain ⟨r, h1, h2, hk⟩ := lay_of (l := l) (o := 0) (vs := vs) (K := fun r => K (v :: r)) h
    refine ⟨v :: r, ?_, ?_, hk⟩
    · simp only [h1, List.take_zero, List.nil_append, Nat.zero_add, List.length_cons, List.drop_succ_cons, List.cons_append]
    · left
      rcases h2 with h2 | rfl
      · simp at h2 ⊢; omega
      · simp
  | a :: l, o + 1, v :: vs, K, h => by
    obtain ⟨r, h1, h2, hk⟩ := lay_of (l := l) (o := o) (vs := v :: vs) (K := fun r => K (a :: r)) h
    refine ⟨a :: r, ?_, ?_, hk⟩
    · rw [h1]; simp only [List.take_succ_cons, List.cons_append, List.length_cons]; rw [show o + 1 + (vs.length + 1) = (o + (vs.length + 1)) + 1 from by omega, List.drop_succ_cons]
    · left
      rcases h2 with h2 | h2
      · simp at h2 ⊢; omega
      · cases h2
theorem lay_mem {α : Type} {l : List α} {o : Nat} {vs : List α} {v : α} (h : v ∈ l.take o ++ vs ++ l.drop (o + vs.length)) : v ∈ l ∨ v ∈ vs := by
  simp only [List.mem_append] at h
  rcases h with (h | h) | h
  · exact .inl (List.mem_of_mem_take h)
  · exact .inr h
  · exact .inl (List.mem_of_mem_drop h)
theorem lay_get {α : Type} {l : List α} {o : Nat} {vs : List α} (hl : o + vs.length ≤ l.length) (j : Nat) :
    (l.take o ++ vs ++ l.drop (o + vs.length))[j]? = if o ≤ j ∧ j < o + vs.length then vs[j - o]? else l[j]? := by
  by_cases h1 : j < o
  · rw [List.append_assoc, List.getElem?_append_left (by rw [List.length_take]; omega), List.getElem?_take_of_lt h1, if_neg (by omega)]
  · by_cases h2 : j < o + vs.length
    · rw [if_pos ⟨by omega, h2⟩, List.append_assoc, List.getElem?_append_right (by rw [List.length_take]; omega), List.getElem?_append_left (by rw [List.length_take]; omega), List.length_take, Nat.min_eq_left (by omega)]
    · rw [if_neg (by omega), List.getElem?_append_right (by rw [List.length_append, List.length_take]; omega), List.getElem?_drop, List.length_append, List.length_take]
      congr 1
      omega
theorem store_run {b o t : Nat} {cur : Array Value} {e : Nat} (hb : w.heap[b]? = some (.cells cur e (0, 0))) {i : TypeInfo} (hi : P.info? t = some i) {v : Value} {vs : List C} (hv : v.cells = renL β vs) (hs : vs.length = i.size)
    (hl : o + vs.length ≤ cur.size) : ∃ w', (Instr.storeAt t (.pointer (some ⟨b, o, none⟩)) v).run P w = .ok () w' ∧
      (∃ cur', w'.heap[b]? = some (.cells cur' e (0, 0)) ∧ cur'.size = cur.size ∧ ∀ j, cur'[j]? = if o ≤ j ∧ j < o + vs.length then (vs[j - o]?).map (C.ren β) else cur[j]?) ∧
      (∀ k, k ≠ b → w'.heap[k]? = w.heap[k]?) ∧ w'.heap.size = w.heap.size ∧ w'.os = w.os ∧ w'.tape = w.tape ∧ w'.output = w.output := by
  have hst := run_storeCells_at P b o e (vs.map (C.ren β)) 0 cur w hb (by simpa using hl) (by
    intro u hu
    obtain ⟨c, _, rfl⟩ := List.mem_map.1 hu
    exact c.ren_one)
  have e1 : (renL β vs).toList = vs.map (C.ren β) := rfl
  refine ⟨w.setRow b (cur.toList.take (o + 0) ++ vs.map (C.ren β) ++ cur.toList.drop (o + 0 + (vs.map (C.ren β)).length)).toArray, ?_, ⟨_, setRow_heap w b cur _ e _ hb, ?_, ?_⟩, fun k hk => setRow_other w b k _ hk, by simp [World.setRow], rfl, rfl, rfl⟩
  rotate_left
  · simp only [List.size_toArray, List.length_append, List.length_take, List.length_drop, List.length_map, Array.length_toList]; omega
  · intro j
    rw [← Array.getElem?_toList]
    simp only [Nat.add_zero]
    rw [lay_get (l := cur.toList) (by simpa using hl)]
    simp only [List.length_map, List.getElem?_map, Array.getElem?_toList]
  · simp only [Instr.storeAt, Instr.sureAddr, Sem.run_bind, Sem.run_pure, Result.andThen_ok, storeVar, sizeOf, typeInfo, run_program, hi, hv, e1, Sem.run_ite]
    rw [if_neg (by simp [renL, hs]), hst]
theorem flatK_of {k : Bool} {vs : List C} {A : Prop} (h : flatK k vs A) : (k = false → ∀ v ∈ vs, v.flat = true) ∧ A := by
  cases k with
  | true => exact ⟨fun e => (by cases e), h⟩
  | false =>
    obtain ⟨h1, h2⟩ := ifB_of h
    exact ⟨fun _ => List.all_eq_true.1 h1, h2⟩
theorem storeK_of (hv : Valid tb P) (hr : Rel cx β s a w) {t : Nat} {ad : C} {v : T} (hvb : v.bel s.h.length) {K : List Fam → Prop} (h : storeK tb s.h t ad v K) :
    ∃ h' w', (Instr.storeAt t (ad.ren β) (v.ren β)).run P w = .ok () w' ∧ K h' ∧ Rel cx β ⟨s.t, h'⟩ a w' ∧ h'.length = s.h.length := by
  obtain ⟨d, hd, h⟩ := td_of hv h
  obtain ⟨i, u, hi, hu, hs, _, hsh, _⟩ := Td.of_spec hd
  obtain ⟨vs, hvs, hvb', h⟩ := cellsK_of (β := β) h
  obtain ⟨hlen, h⟩ := ifB_of h
  have hlen : vs.length = i.size := by have := Nat.eq_of_beq_eq_true hlen; omega
  have hvb := hvb' _ hvb
  cases ad with
  | p f x o =>
    have h := getK_of h
    have hc := hr.ft.ck f x
    have hwf := hr.wf.h f x
    split at h
    · rename_i l hg
      rw [hg] at hc hwf
      obtain ⟨l', rfl, hl, h⟩ := lay_of h
      obtain ⟨h', hk, hlen', h1, h2⟩ := updK_of h
      obtain ⟨cur, e, fz, hb, hcur, hfz⟩ := hc
      have := hfz rfl
      subst this
      by_cases hne : vs = []
      · subst hne
        refine ⟨h', w, ?_, hk, ?_, hlen'⟩
        · simp only [C.ren, Instr.storeAt, Instr.sureAddr, Sem.run_bind, Sem.run_pure, Result.andThen_ok, storeVar, sizeOf, typeInfo, run_program, hi, hvs, Sem.run_ite]
          rw [if_neg (by simpa [renL] using hlen)]
          rfl
        · refine hr.write (f := f) (x := x) (by rw [hg]; rfl) rfl hlen' h1 h2 ?_ ?_ rfl rfl rfl rfl (fun _ _ => rfl)
          · refine ⟨cur, e, (0, 0), hb, fun j v hj => hcur j v ?_, fun _ => rfl⟩
            simpa using hj
          · intro v hv
            exact hwf v (by simpa using hv)
      · have hl : o + vs.length ≤ l.length := hl.resolve_right hne
        have hin : ∀ j, j < l.length → (β f x).2.1 + j < cur.size := fun j hj => (Array.getElem?_eq_some_iff.1 (hcur j l[j] (List.getElem?_eq_getElem hj))).1
        have hpos : 0 < vs.length := List.length_pos_iff.2 hne
        have hfit : (β f x).2.1 + o + vs.length ≤ cur.size := by
          have := hin (o + vs.length - 1) (by omega)
          omega
        obtain ⟨w', hrun, ⟨cur', hb', hsz', hcur'⟩, hot, hsz, hos, htp, hout⟩ := store_run (P := P) hb hi hvs hlen hfit
        refine ⟨h', w', hrun, hk, ?_, hlen'⟩
        refine hr.write (f := f) (x := x) (by rw [hg]; rfl) rfl hlen' h1 h2 ?_ ?_ hos htp hout hsz hot
        · refine ⟨cur', e, (0, 0), hb', fun j v hj => ?_, fun _ => rfl⟩
          rw [hcur']
          rw [lay_get hl] at hj
          by_cases hjr : o ≤ j ∧ j < o + vs.length
          · rw [if_pos hjr] at hj
            rw [if_pos (by omega), show (β f x).2.1 + j - ((β f x).2.1 + o) = j - o from by omega, hj]
            rfl
          · rw [if_neg hjr] at hj
            rw [if_neg (by omega)]
            exact hcur j v hj
        · intro v hv
          rcases lay_mem hv with hv | hv
          · exact hwf v hv
          · exact hvb v hv
    · exact h.elim
  | pe f x z e j =>
    have h := getK_of h
    have hc := hr.ft.ck f x
    have hwf := hr.wf.h f x
    split at h
    · rename_i k et z' n c g hg
      rw [hg] at hc hwf
      obtain ⟨rfl, h⟩ := h
      split at h
      rotate_left
      · split at h
        · rename_i m et hd2
          obtain ⟨⟨hj, hem, hmz, hz0, hm0⟩, h9⟩ := h
          obtain ⟨hflat, h9⟩ := flatK_of h9
          obtain ⟨h', hk, hlen', h1, h2⟩ := updK_of h9
          subst hj
          obtain ⟨hnc, hnil, hkf, hgll, hblk⟩ := hc
          have hvl : vs.length = m * z' := by omega
          have hc0 : c ≠ 0 := by omega
          have hown : (Ck.row true k et z' n c g).owned = true := row_owned hc0
          obtain ⟨cur, te, fz, hb, hcur, how⟩ := hblk hc0
          obtain ⟨rfl, rfl, hcm, hcs⟩ := how rfl
          have hfit : (β f x).2.1 + (e * z' + 0) + vs.length ≤ cur.size := by
            have : (e + m) * z' ≤ c * z' := Nat.mul_le_mul_right _ (by omega)
            rw [Nat.add_mul] at this
            omega
          have hcell : ∀ i j v, (chunkOf z' vs i)[j]? = some v → j < z' ∧ vs[i * z' + j]? = some v := by
            intro i j v hj
            unfold chunkOf at hj
            rw [List.getElem?_take] at hj
            split at hj
            · rename_i hjz
              rw [List.getElem?_drop] at hj
              exact ⟨hjz, hj⟩
            · cases hj
          have hmem : ∀ i v, v ∈ chunkOf z' vs i → v ∈ vs := fun i v hv => List.mem_of_mem_drop (List.mem_of_mem_take hv)
          obtain ⟨w', hrun, ⟨cur', hb', hsz', hcur'⟩, hot, hsz, hos, htp, hout⟩ := store_run (P := P) hb hi hvs hlen hfit
          refine ⟨h', w', hrun, hk, ?_, hlen'⟩
          refine hr.write (f := f) (x := x) (by rw [hg]; exact hown) (row_owned hc0) hlen' h1 h2 ?_ ?_ hos htp hout hsz hot
          · refine ⟨hnc, hnil, fun hk' i hi' v hv => ?_, fun i hi' => ?_, fun _ => ⟨cur', te, (0, 0), hb', fun i hi' q v hq => ?_, fun _ => ⟨rfl, rfl, hcm, by omega⟩⟩⟩
            · unfold splF at hv
              split at hv
              · exact hkf hk' i hi' v hv
              · split at hv
                · exact hflat hk' v (hmem _ v hv)
                · exact hkf hk' i hi' v hv
            · unfold splF
              split
              · exact hgll i hi'
              · split
                · unfold chunkOf
                  rw [List.length_take, List.length_drop, hvl]
                  have : (0 + (i - e) + 1) * z' ≤ m * z' := Nat.mul_le_mul_right _ (by omega)
                  rw [Nat.add_mul] at this
                  omega
                · exact hgll i hi'
            · rw [hcur']
              have hqz : q < z' ∧ (i < e ∨ e + m ≤ i → cur[(β f x).2.1 + (i * z' + q)]? = some (v.ren β)) := by
                unfold splF at hq
                split at hq
                · refine ⟨?_, fun _ => hcur i hi' q v hq⟩
                  have := (List.getElem?_eq_some_iff.1 hq).1
                  rw [hgll i hi'] at this
                  exact this
                · split at hq
                  · exact ⟨(hcell _ _ _ hq).1, fun h => by omega⟩
                  · refine ⟨?_, fun _ => hcur i hi' q v hq⟩
                    have := (List.getElem?_eq_some_iff.1 hq).1
                    rw [hgll i hi'] at this
                    exact this
              obtain ⟨hqz, hold⟩ := hqz
              by_cases hin : e ≤ i ∧ i < e + m
              · unfold splF at hq
                rw [if_neg (by omega), if_pos (by omega), Nat.zero_add] at hq
                have := (hcell _ _ _ hq).2
                have e1 : (i - e) * z' + e * z' = i * z' := by rw [← Nat.add_mul]; congr 1; omega
                have e2 : (i - e + 1) * z' ≤ m * z' := Nat.mul_le_mul_right _ (by omega)
                rw [Nat.add_mul] at e2
                rw [if_pos (by omega), show (β f x).2.1 + (i * z' + q) - ((β f x).2.1 + (e * z' + 0)) = (i - e) * z' + q from by omega, this]
                rfl
              · rw [if_neg]
                · exact hold (by omega)
                · rcases (by omega : i < e ∨ e + m ≤ i) with hlt' | hlt'
                  · have : (i + 1) * z' ≤ e * z' := Nat.mul_le_mul_right _ hlt'
                    rw [Nat.add_mul] at this
                    omega
                  · have : (e + m) * z' ≤ i * z' := Nat.mul_le_mul_right _ hlt'
                    rw [Nat.add_mul] at this
                    omega
          · intro i hi' v hv
            unfold splF at hv
            split at hv
            · exact hwf i hi' v hv
            · split at hv
              · exact hvb v (hmem _ v hv)
              · exact hwf i hi' v hv
        · exact h.elim
      obtain ⟨hlt, h⟩ := h
      obtain ⟨hflat, h⟩ := flatK_of h
      obtain ⟨l', rfl, hl, h⟩ := lay_of h
      obtain ⟨h', hk, hlen', h1, h2⟩ := updK_of h
      obtain ⟨hnc, hnil, hkf, hgll, hblk⟩ := hc
      have hc0 : c ≠ 0 := by omega
      have hown : (Ck.row true k et z' n c g).owned = true := row_owned hc0
      obtain ⟨cur, te, fz, hb, hcur, how⟩ := hblk hc0
      obtain ⟨rfl, rfl, hcm, hcs⟩ := how rfl
      have hgl := hgll e hlt
      by_cases hne : vs = []
      · subst hne
        refine ⟨h', w, ?_, hk, ?_, hlen'⟩
        · simp only [C.ren, Instr.storeAt, Instr.sureAddr, Sem.run_bind, Sem.run_pure, Result.andThen_ok, storeVar, sizeOf, typeInfo, run_program, hi, hvs, Sem.run_ite]
          rw [if_neg (by simpa [renL] using hlen)]
          rfl
        · have hsame : (fun i => if i = e then List.take j (g e) ++ ([] : List C) ++ List.drop (j + ([] : List C).length) (g e) else g i) = g := by
            funext i
            by_cases hie : i = e
            · subst hie; simp
            · simp [hie]
          rw [hsame] at h1
          refine hr.write (f := f) (x := x) (by rw [hg]; exact hown) (row_owned hc0) hlen' h1 h2 ?_ hwf rfl rfl rfl rfl (fun _ _ => rfl)
          exact ⟨hnc, hnil, hkf, hgll, fun _ => ⟨cur, te, (0, 0), hb, hcur, how⟩⟩
      · have hl : j + vs.length ≤ (g e).length := hl.resolve_right hne
        have hfit : (β f x).2.1 + (e * z' + j) + vs.length ≤ cur.size := by
          have : (e + 1) * z' ≤ c * z' := Nat.mul_le_mul_right _ (by omega)
          rw [Nat.add_mul] at this
          omega
        obtain ⟨w', hrun, ⟨cur', hb', hsz', hcur'⟩, hot, hsz, hos, htp, hout⟩ := store_run (P := P) hb hi hvs hlen hfit
        refine ⟨h', w', hrun, hk, ?_, hlen'⟩
        refine hr.write (f := f) (x := x) (by rw [hg]; exact hown) (row_owned hc0) hlen' h1 h2 ?_ ?_ hos htp hout hsz hot
        · refine ⟨hnc, hnil, fun hk' i hi' v hv => ?_, fun i hi' => ?_, fun _ => ⟨cur', te, (0, 0), hb', fun i hi' q v hq => ?_, fun _ => ⟨rfl, rfl, hcm, by omega⟩⟩⟩
          rotate_left
          · by_cases hie : i = e
            · subst hie
              simp only [if_true, List.length_append, List.length_take, List.length_drop]; omega
            · simp only [if_neg hie]
              exact hgll i hi'
          · by_cases hie : i = e
            · subst hie
              simp only [if_true] at hq
              · rw [hcur']
                rw [lay_get hl] at hq
                by_cases hqr : j ≤ q ∧ q < j + vs.length
                · rw [if_pos hqr] at hq
                  rw [if_pos (by omega), show (β f x).2.1 + (i * z' + q) - ((β f x).2.1 + (i * z' + j)) = q - j from by omega, hq]
                  rfl
                · rw [if_neg hqr] at hq
                  rw [if_neg (by omega)]
                  exact hcur i hi' q v hq
            · simp only [if_neg hie] at hq
              rw [hcur']
              have hqz : q < z' := by
                have := (List.getElem?_eq_some_iff.1 hq).1
                rw [hgll i hi'] at this
                exact this
              rw [if_neg]
              · exact hcur i hi' q v hq
              · have hjz : j + vs.length ≤ z' := by omega
                rcases Nat.lt_or_gt_of_ne hie with hlt' | hlt'
                · have : (i + 1) * z' ≤ e * z' := Nat.mul_le_mul_right _ hlt'
                  rw [Nat.add_mul] at this
                  omega
                · have : (e + 1) * z' ≤ i * z' := Nat.mul_le_mul_right _ hlt'
                  rw [Nat.add_mul] at this
                  omega
          · by_cases hie : i = e
            · subst hie
              simp only [if_true] at hv
              rcases lay_mem hv with hv | hv
              · exact hkf hk' i hi' v hv
              · exact hflat hk' v hv
            · simp only [if_neg hie] at hv
              exact hkf hk' i hi' v hv
        · intro i hi' v hv
          by_cases hie : i = e
          · subst hie
            simp only [if_true] at hv
            rcases lay_mem hv with hv | hv
            · exact hwf i hi' v hv
            · exact hvb v hv
          · simp only [if_neg hie] at hv
            exact hwf i hi' v hv
    · exact h.elim
  | _ => exact h.elim
end Go.X
set_option linter.constructorNameAsVariable false
set_option linter.unusedVariables false
namespace Go.X
variable {cx : Cx} {β : Nm} {s : S} {a : Act} {w : World} {P : Program} {tb : Tb}
theorem cells_new {vs : List C} {e : Nat} : (Ck.cells true vs).holds β (w.alloc (.cells (renL β vs) e)) (w.heap.size, 0, .live) :=
  ⟨renL β vs, e, (0, 0), heap_alloc_new w _, fun j v hj => by simp [renL, hj], fun _ => rfl⟩
theorem newVar_run (t : Nat) {v : Value} {vs : List C} (hv : v.cells = renL β vs) : (do pure (Value.pointer (some (← newVar t v))) : Sem Value).run P w = .ok (.pointer (some ⟨w.heap.size, 0, none⟩)) (w.alloc (.cells (renL β vs) t)) := by
  simp only [newVar, newRow, Sem.run_bind, run_newObj, Result.andThen_ok, Sem.run_pure, hv]
  rfl
theorem andVw {x : Sem Value} {v : Value} {w' : World} (h : x.run P w = .ok v w') : (do pure (Next.value (← x)) : Sem Next).run P w = .ok (.value v) w' := by
  simp [h]
theorem p_new (β : Nm) (n : Nat) (b : Nat) : (C.p n 0 0).ren (bind β n (b, 0, .live)) = .pointer (some ⟨b, 0, none⟩) := by
  simp [C.ren, place, bind_new]
theorem sl_new (β : Nm) (n b z m c : Nat) : (C.sl n 0 z 0 m c).ren (bind β n (b, 0, .live)) = .slice (some ⟨b, 0, none⟩) m c := by
  rw [sl_adr]
  simp [adr, place, bind_new]
theorem zero_of {t : Nat} {d : Td} (hd : Td.of P t = some d) (hz : d.zok = true) : ∃ z, (zeroValue t).run P w = .ok z w ∧ z.cells = renL β d.zero ∧ d.zero.length = d.size ∧ ∃ i, P.info? t = some i ∧ i.zero = some z := by
  obtain ⟨i, u, hi, hu, hs, _, hsh, hzz⟩ := Td.of_spec hd
  obtain ⟨z, h1, hl, h2⟩ := hzz hz
  exact ⟨z, by simp [zeroValue, typeInfo, hi, h1], h2 β, hl.trans hs.symm, i, hi, h1⟩
theorem zero_flat {t : Nat} {d : Td} (hd : Td.of P t = some d) (n : Nat) : ∀ v ∈ d.zero, v.bel n := by
  unfold Td.of at hd
  split at hd
  · cases hd
    intro v hv
    simp only at hv
    split at hv
    · obtain ⟨c, _, rfl⟩ := List.mem_map.1 hv
      cases h : ofVal c with
      | none => simp [C.bel]
      | some r => simpa using ofVal_bel h
    · simp at hv
  · cases hd
def Val (P : Program) (cx : Cx) (β : Nm) (s : S) (a : Act) (w : World) (K : T → List Fam → Prop) (x : Sem Next) : Prop :=
  ∃ v β' h' w', x.run P w = .ok (.value (v.ren β')) w' ∧ K v h' ∧ v.bel h'.length ∧ Rel cx β' ⟨s.t, h'⟩ a w' ∧ Agree s.h.length β β' ∧ s.h.length ≤ h'.length
theorem partsK_of (ht : Tmps β s a) (hw : Wf s) : ∀ {ps : List (Nat × Operand)} {K : List (Nat × T) → Prop}, partsK s ps K →
    ∃ vs, ps.map (fun p => (p.1, a.eval p.2)) = vs.map (fun p => (p.1, p.2.ren β)) ∧ (∀ p ∈ vs, p.2.bel s.h.length) ∧ K vs
  | [], K, h => ⟨[], rfl, by simp, h⟩
  | (i, x) :: ps, K, h => by
    obtain ⟨v, hv, hvb, hk⟩ := ev_of ht (ev_wf (K' := fun v => v.bel s.h.length ∧ _) hw (fun v hv h => ⟨hv, h⟩) h)
    obtain ⟨vs, hvs, hb, hk⟩ := partsK_of ht hw hk
    refine ⟨(i, v) :: vs, by simp [hv, hvs], ?_, hk⟩
    intro p hp
    rcases List.mem_cons.1 hp with rfl | hp
    · exact hvb
    · exact hb p hp
theorem foldl_set (vs : List Value) : ∀ (k off : Nat) (cs : Array Value), off + k + vs.length ≤ cs.size →
    ((vs.zipIdx k).foldl (fun cs (x : Value × Nat) => cs.setIfInBounds (off + x.2) x.1) cs).toList = cs.toList.take (off + k) ++ vs ++ cs.toList.drop (off + k + vs.length) := by
  induction vs with
  | nil => intro k off cs _; simp
  | cons v vs ih =>
    intro k off cs h
    simp only [List.length_cons] at h
    simp only [List.zipIdx_cons, List.foldl_cons]
    rw [ih (k + 1) off _ (by simp; omega)]
    rw [Array.toList_setIfInBounds]
    apply List.ext_getElem?
    intro j
    have h1 : off + (k + 1) + vs.length ≤ (cs.toList.set (off + k) v).length := by simp; omega
    have h2 : off + k + (v :: vs).length ≤ cs.toList.length := by simp; omega
    rw [lay_get h1, lay_get h2, List.getElem?_set]
    by_cases hj : j < off + k
    · rw [if_neg (by omega), if_neg (by omega), if_neg (by omega)]
    · by_cases hj2 : j = off + k
      · subst hj2
        rw [if_neg (by omega), if_pos rfl, if_pos (by simp; omega), if_pos (by simp)]
        simp
      · by_cases hj3 : j < off + k + (vs.length + 1)
        · rw [if_pos (by omega), if_pos (by simp; omega)]
          rw [show j - (off + k) = (j - (off + (k + 1))) + 1 from by omega, List.getElem?_cons_succ]
        · rw [if_neg (by omega), if_neg (by omega), if_neg (by simp; omega)]
theorem fillK_of {z : Nat} {n : Nat} : ∀ {ps : List (Nat × T)} {l : List C} {K : List C → Prop}, (∀ p ∈ ps, p.2.bel n) → (∀ v ∈ l, v.bel n) → fillK z l ps K →
    ∃ r, Instr.fill (fun i => some (i * z, z)) (renL β l) (ps.map fun p => (p.1, p.2.ren β)) = some (renL β r) ∧ r.length = l.length ∧ (∀ v ∈ r, v.bel n) ∧ K r
  | [], l, K, _, hl, h => ⟨l, rfl, rfl, hl, h⟩
  | (i, v) :: ps, l, K, hp, hl, h => by
    obtain ⟨vs, hvs, hb, h⟩ := cellsK_of (β := β) h
    obtain ⟨hlen, h⟩ := ifB_of h
    have hlen := Nat.eq_of_beq_eq_true hlen
    obtain ⟨l', hl', hfit, h⟩ := lay_of h
    have hvb := hb n (hp (i, v) (by simp))
    have hmem : ∀ c ∈ l', c.bel n := by
      intro c hc
      rw [hl'] at hc
      rcases lay_mem hc with hc | hc
      · exact hl c hc
      · exact hvb c hc
    obtain ⟨r, hr, hrl, hrb, hk⟩ := fillK_of (ps := ps) (fun p hp' => hp p (by simp [hp'])) hmem h
    have hll : l'.length = l.length := by
      rw [hl']
      rcases hfit with hf | rfl
      · simp only [List.length_append, List.length_take, List.length_drop]; omega
      · simp
    refine ⟨r, ?_, hrl.trans hll, hrb, hk⟩
    rw [List.map_cons]
    unfold Instr.fill
    simp only [hvs]
    by_cases hne : vs = []
    · subst hne
      simp only [List.length_nil] at hlen
      subst hlen
      have : l' = l := by rw [hl']; simp
      subst this
      rw [if_neg (by simp [renL])]
      have e : (renL β ([] : List C)).zipIdx.foldl (fun cs (x : Value × Nat) => cs.setIfInBounds (i * 0 + x.2) x.1) (renL β l') = renL β l' := by rfl
      rw [← hr]
      congr 1
    · have hf := hfit.resolve_right hne
      rw [if_neg (by simp [renL, hlen]; omega)]
      have e : (renL β vs).zipIdx.foldl (fun cs (x : Value × Nat) => cs.setIfInBounds (i * z + x.2) x.1) (renL β l) = renL β l' := by
        apply Array.toList_inj.1
        rw [← Array.foldl_toList]
        have := foldl_set (vs.map (C.ren β)) 0 (i * z) (renL β l) (by simp [renL]; omega)
        rw [Array.toList_zipIdx]
        refine this.trans ?_
        simp only [renL, Nat.add_zero, List.length_map, hl', List.map_append, List.map_take, List.map_drop]
      rw [← hr]
      congr 1
theorem reps_len (n : Nat) (l : List C) : (reps n l).length = n * l.length := by
  induction n with
  | zero => simp [reps]
  | succ n ih => simp [reps, ih, Nat.add_mul, Nat.add_comm]
theorem reps_mem {n : Nat} {l : List C} {v : C} (h : v ∈ reps n l) : v ∈ l := by
  induction n with
  | zero => cases h
  | succ n ih =>
    rcases List.mem_append.1 h with h | h
    · exact h
    · exact ih h
theorem reps_get {n : Nat} {l : List C} (hl : 0 < l.length) (j : Nat) (hj : j < n * l.length) : (reps n l)[j]? = l[j % l.length]? := by
  induction n generalizing j with
  | zero => omega
  | succ n ih =>
    unfold reps
    by_cases h : j < l.length
    · rw [List.getElem?_append_left h, Nat.mod_eq_of_lt h]
    · rw [List.getElem?_append_right (by omega), ih (j - l.length) (by rw [Nat.add_mul] at hj; omega)]
      congr 1
      rw [Nat.mod_eq_sub_mod (by omega : j ≥ l.length)]
theorem chunk_mem {z i : Nat} {l : List C} {v : C} (h : v ∈ chunkOf z l i) : v ∈ l := List.mem_of_mem_drop (List.mem_of_mem_take h)
theorem chunk_row {z n e : Nat} {cs : List C} (hl : cs.length = n * z) (hm : n ≤ maxLen) : (Ck.row true (!(cs.all C.flat)) e z n n (chunkOf z cs)).holds β (w.alloc (.cells (renL β cs) e)) (w.heap.size, 0, .live) := by
  refine ⟨Nat.le_refl _, fun h => absurd rfl h, fun h i _ v hv => List.all_eq_true.1 (by simpa using h : cs.all C.flat = true) v (List.mem_of_mem_drop (List.mem_of_mem_take hv)), fun i hi => ?_, fun _ => ⟨renL β cs, e, (0, 0), heap_alloc_new w _, fun i hi j v hj => ?_, fun _ => ⟨rfl, rfl, hm, by simp [renL, hl]⟩⟩⟩
  · have : (i + 1) * z ≤ n * z := Nat.mul_le_mul_right _ hi
    rw [Nat.add_mul] at this
    simp only [chunkOf, List.length_take, List.length_drop]
    omega
  · simp only [chunkOf] at hj
    rw [List.getElem?_take] at hj
    split at hj
    · rw [List.getElem?_drop] at hj
      simp [renL, hj]
    · cases hj
theorem zeros_eq {n : Nat} {l : List C} : ((Array.range (n * l.length)).map fun j => (renL β l)[j % (renL β l).size]!) = renL β (reps n l) := by
  apply Array.toList_inj.1
  apply List.ext_getElem?
  intro j
  simp only [Array.toList_map, Array.toList_range, renL, List.getElem?_map]
  by_cases hj : j < n * l.length
  · have hzp : 0 < l.length := by
      rcases Nat.eq_zero_or_pos l.length with h0 | h0
      · rw [h0] at hj; simp at hj
      · exact h0
    rw [List.getElem?_range hj, reps_get hzp j hj]
    have hm : j % l.length < l.length := Nat.mod_lt _ hzp
    simp [hm]
  · rw [List.getElem?_eq_none (by simp; omega), List.getElem?_eq_none (by rw [reps_len]; omega)]
    rfl
theorem ofVal_flat {v : Value} {c : C} (h : ofVal v = some c) : c.flat = true := by
  unfold ofVal at h
  split at h <;> first | (cases h; rfl) | cases h
theorem zero_flat' {t : Nat} {d : Td} (hd : Td.of P t = some d) : ∀ v ∈ d.zero, v.flat = true := by
  unfold Td.of at hd
  split at hd
  · cases hd
    intro v hv
    simp only at hv
    split at hv
    · obtain ⟨c, _, rfl⟩ := List.mem_map.1 hv
      cases h : ofVal c with
      | none => rfl
      | some r => simpa using ofVal_flat h
    · simp at hv
  · cases hd
theorem build_of (hv : Valid tb P) (hr : Rel cx β s a w) {t len : Nat} {parts : Array (Nat × Operand)} {K : T → List Fam → Prop} (h : xval tb s (.buildSlice t len parts) K) :
    Val P cx β s a w K (do pure (.value (← Instr.buildSlice t len (parts.map fun (i, x) => (i, a.eval x))))) := by
  obtain ⟨t0, h0⟩ := s
  obtain ⟨d, hd, h⟩ := td_of hv h
  obtain ⟨i, u, hi, hu, hs, _, hsh, _⟩ := Td.of_spec hd
  split at h
  · have := shOf_slice (hsh.symm.trans (by assumption))
    subst this
    obtain ⟨d', hd', h⟩ := td_of hv h
    obtain ⟨i', u', hi', hu', hs', _⟩ := Td.of_spec hd'
    obtain ⟨hle, h⟩ := ifB_of h
    obtain ⟨hz, h⟩ := ifB_of h
    obtain ⟨hle, hbig⟩ := Bool.and_eq_true_iff.1 hle
    have hle := Nat.le_of_ble_eq_true hle
    have hbig : len ≤ maxLen := by have := Nat.le_of_ble_eq_true hbig; unfold maxLen; omega
    obtain ⟨vs, hvs, hvb, h⟩ := partsK_of hr.tm hr.wf h
    have hzb := zero_flat hd' h0.length
    obtain ⟨r, hrun, hrl, hrb, h⟩ := fillK_of (β := β) (n := h0.length) hvb (fun v hv => hzb v (reps_mem hv)) h
    have h := addK_of h
    obtain ⟨z, hz1, hz2, hzl, i2, hi2, _⟩ := zero_of (β := β) (w := w) hd' hz
    have hcl : r.length = len * d'.size := by rw [hrl, reps_len, hzl]
    · refine ⟨_, _, _, _, andVw (?_ : Sem.run P (Instr.buildSlice t len _) w = .ok _ _), h, by simp [T.bel, C.bel], hr.alloc (chunk_row (e := ‹_›) hcl hbig) (fun i _ v hv => hrb v (chunk_mem hv)), bind_agree _ _ _, by simp⟩
      simp only [T.ren]
      rw [sl_new]
      have hsz : i'.size = d'.size := hs'.symm
      have hparts : (Array.map (fun (x : Nat × Operand) => (x.1, a.eval x.2)) parts).toList = vs.map fun p => (p.1, p.2.ren β) := by
        rw [Array.toList_map, ← hvs]
      have hle' : ¬ (len * d'.size > 2 ^ 24) := by omega
      have hinit : ((Array.range (len * d'.size)).map fun j => (renL β d'.zero)[j % (renL β d'.zero).size]!) = renL β (reps len d'.zero) := by
        apply Array.toList_inj.1
        apply List.ext_getElem?
        intro j
        simp only [Array.toList_map, Array.toList_range, renL, List.getElem?_map]
        by_cases hj : j < len * d'.size
        · have hzp : 0 < d'.zero.length := by
            rw [hzl]
            rcases Nat.eq_zero_or_pos d'.size with h0 | h0
            · rw [h0] at hj; simp at hj
            · exact h0
          rw [List.getElem?_range hj, reps_get hzp j (by rw [hzl]; exact hj)]
          have hm : j % d'.zero.length < d'.zero.length := Nat.mod_lt _ hzp
          simp [hm]
        · rw [List.getElem?_eq_none (by simp; omega), List.getElem?_eq_none (by rw [reps_len, hzl]; omega)]
          rfl
      have hfill : ∀ zc : Array Value, ((Array.range (len * d'.size)).map fun j => zc[j % zc.size]!) = renL β (reps len d'.zero) → Instr.fill (fun i => some (i * d'.size, d'.size)) ((Array.range (len * d'.size)).map fun j => zc[j % zc.size]!) (Array.map (fun (x : Nat × Operand) => (x.1, a.eval x.2)) parts).toList = some (renL β r) := by
        intro zc hzc
        rw [hzc, hparts, hrun]
      by_cases h0 : len * d'.size = 0
      · have hzc : ((Array.range (len * d'.size)).map fun j => (#[] : Array Value)[j % (#[] : Array Value).size]!) = renL β (reps len d'.zero) := by
          rw [← hinit, h0]; simp
        simp only [Instr.buildSlice, Sem.run_bind, run_underlying hu, Result.andThen_ok, sizeOf, typeInfo, run_program, hi', Sem.run_pure, hsz, h0, if_neg (show ¬ (0 > 2 ^ 24) from by omega), if_true]
        have := hfill #[] hzc
        rw [h0] at this
        simp only [this, newRow, Sem.run_bind, run_newObj, Result.andThen_ok, Sem.run_pure]
        rfl
      · simp only [Instr.buildSlice, Sem.run_bind, run_underlying hu, Result.andThen_ok, sizeOf, typeInfo, run_program, hi', Sem.run_pure, hsz, if_neg hle', if_neg h0, hz1, hz2]
        simp only [hfill _ hinit, newRow, Sem.run_bind, run_newObj, Result.andThen_ok, Sem.run_pure]
        rfl
  · exact h.elim
theorem new_of (hv : Valid tb P) (hr : Rel cx β s a w) {t : Nat} {vs : List C} {K : T → List Fam → Prop} (hb : ∀ c ∈ vs, c.bel s.h.length) (h : newK tb t vs s.h K) :
    ∃ v β' h', v.ren β' = .pointer (some ⟨w.heap.size, 0, none⟩) ∧ K v h' ∧ v.bel h'.length ∧ Rel cx β' ⟨s.t, h'⟩ a (w.alloc (.cells (renL β vs) t)) ∧ Agree s.h.length β β' ∧ s.h.length ≤ h'.length := by
  unfold newK at h
  split at h
  · obtain ⟨d', hd', h⟩ := td_of hv h
    obtain ⟨hc, h⟩ := ifB_of h
    obtain ⟨hc, h3⟩ := Bool.and_eq_true_iff.1 hc
    obtain ⟨h1, h2⟩ := Bool.and_eq_true_iff.1 hc
    have h1 := Nat.eq_of_beq_eq_true h1
    have h3 := Nat.le_of_ble_eq_true h3
    have h := addK_of h
    refine ⟨_, _, _, ?_, h, by simp [T.bel, C.bel], hr.alloc (chunk_row (e := t) h1 (by unfold maxLen; omega)) (fun i _ v hv => hb v (chunk_mem hv)), bind_agree _ _ _, by simp⟩
    simp [T.ren, C.ren, place, bind_new]
  · have h := addK_of h
    refine ⟨_, _, _, ?_, h, by simp [T.bel, C.bel], hr.alloc (cells_new (e := t)) hb, bind_agree _ _ _, by simp⟩
    simp only [T.ren]
    exact p_new _ _ _
theorem box_of (hv : Valid tb P) (hr : Rel cx β s a w) {x : Operand} {t : Nat} {K : T → List Fam → Prop} (h : ev s x fun v => v.cellsK fun vs => newK tb t vs s.h K) :
    Val P cx β s a w K (do pure (.value (← Instr.box t (a.eval x)))) := by
  have hw := hr.wf
  obtain ⟨v, hx, hvb, h⟩ := ev_of hr.tm (ev_wf (K' := fun v => v.bel s.h.length ∧ _) hw (fun v hv h => ⟨hv, h⟩) h)
  obtain ⟨vs, hvs, hb, h⟩ := cellsK_of (β := β) h
  obtain ⟨r, β', h', h1, h2, h3, h4, h5, h6⟩ := new_of hv hr (hb _ hvb) h
  refine ⟨r, β', h', _, andVw (?_ : Sem.run P (Instr.box t (a.eval x)) w = .ok _ _), h2, h3, h4, h5, h6⟩
  rw [h1, hx]
  exact newVar_run t hvs
theorem alloc_of (hv : Valid tb P) (hr : Rel cx β s a w) {t : Nat} {K : T → List Fam → Prop} (h : allocK tb t fun vs => newK tb t vs s.h K) :
    Val P cx β s a w K (do pure (.value (← Instr.alloc t true (.tuple #[])))) := by
  obtain ⟨d, hd, h⟩ := td_of hv h
  obtain ⟨hz, h⟩ := ifB_of h
  obtain ⟨z, hz1, hz2, _, _⟩ := zero_of (β := β) (w := w) hd hz
  obtain ⟨r, β', h', h1, h2, h3, h4, h5, h6⟩ := new_of hv hr (zero_flat hd _) h
  refine ⟨r, β', h', _, andVw (?_ : Sem.run P (Instr.alloc t true (.tuple #[])) w = .ok _ _), h2, h3, h4, h5, h6⟩
  rw [h1]
  unfold Instr.alloc
  simp only [Sem.run_bind, hz1, Result.andThen_ok]
  have := newVar_run (P := P) (w := w) t hz2
  simpa using this
theorem makeS_of (hv : Valid tb P) (hr : Rel cx β s a w) {t e : Nat} (hu : P.underlying t = some (.slice e)) {d : Td} (hd : Td.of P e = some d) {l c : C} {K : T → List Fam → Prop} (h : makeSK tb d e s.h l c K) :
    Val P cx β s a w K (do pure (.value (← Instr.makeSlice t (l.ren β) (c.ren β)))) := by
  cases l with
  | i kl n =>
    cases c with
    | i kc m =>
      obtain ⟨hz, ⟨h0, h1, h2, h3⟩, h⟩ := ifB_of h
      obtain ⟨z, hz1, hz2, hzl, i, hi, hi0⟩ := zero_of (β := β) (w := w) hd hz
      obtain ⟨i', u', hi', hu', hs', hby, _⟩ := Td.of_spec hd
      rw [hi] at hi'
      cases hi'
      have h := addK_of h
      have hrun := run_make (P := P) w t e i _ hu hi hi0 kl kc n m h0 h1 (by rw [← hby]; exact h3) (by omega)
      have hcl : (reps m.toNat d.zero).length = m.toNat * d.size := by rw [reps_len, hzl]
      have hcells : madeCells z.cells (m.toNat * i.size) = renL β (reps m.toNat d.zero) := by
        rw [hz2]
        apply Array.toList_inj.1
        apply List.ext_getElem?
        intro j
        simp only [madeCells, Array.toList_map, Array.toList_range, renL, List.getElem?_map]
        rw [← hs']
        by_cases hj : j < m.toNat * d.size
        · have hzp : 0 < d.zero.length := by
            rw [hzl]
            rcases Nat.eq_zero_or_pos d.size with h0 | h0
            · rw [h0] at hj; simp at hj
            · exact h0
          rw [List.getElem?_range hj, reps_get hzp j (by rw [hzl]; exact hj)]
          have hm : j % d.zero.length < d.zero.length := Nat.mod_lt _ hzp
          simp [hm]
        · rw [List.getElem?_eq_none (by simp; omega), List.getElem?_eq_none (by rw [reps_len, hzl]; omega)]
          rfl
      rw [hcells] at hrun
      have hho : (Ck.row true (!flatShB tb d.sh) e d.size m.toNat m.toNat (fun _ => d.zero)).holds β (w.alloc (.cells (renL β (reps m.toNat d.zero)) e)) (w.heap.size, 0, .live) := by
        refine ⟨Nat.le_refl _, fun h => absurd rfl h, fun _ i _ v hv => zero_flat' hd v hv, fun i _ => hzl, fun _ => ⟨renL β (reps m.toNat d.zero), e, (0, 0), heap_alloc_new w _, fun i hi j v hj => ?_, fun _ => ⟨rfl, rfl, by unfold maxLen; omega, by simp [renL, hcl]⟩⟩⟩
        have hjz : j < d.size := by
          have : j < d.zero.length := (List.getElem?_eq_some_iff.1 hj).1
          omega
        have e1 : (reps m.toNat d.zero)[i * d.size + j]? = some v := by
          have h4 : (i + 1) * d.size ≤ m.toNat * d.size := Nat.mul_le_mul_right _ hi
          rw [Nat.add_mul] at h4
          have hp : 0 < d.zero.length := by rw [hzl]; omega
          have hlt : i * d.size + j < m.toNat * d.zero.length := by rw [hzl]; omega
          rw [reps_get hp _ hlt, hzl, Nat.mul_comm, Nat.mul_add_mod, Nat.mod_eq_of_lt hjz]
          exact hj
        simp [renL, e1]
      refine ⟨_, _, _, _, andVw (?_ : Sem.run P (Instr.makeSlice t _ _) w = .ok _ _), h, by simp [T.bel, C.bel], hr.alloc hho (fun i _ v hv => zero_flat hd _ v hv), bind_agree _ _ _, by simp⟩
      simp only [T.ren]
      rw [sl_new]
      exact hrun
    | _ => exact h.elim
  | _ => exact h.elim
theorem fillS_of {fl : List (Nat × Nat × Nat)} {n : Nat} : ∀ {ps : List (Nat × T)} {l : List C} {K : List C → Prop}, (∀ p ∈ ps, p.2.bel n) → (∀ v ∈ l, v.bel n) → fillS fl l ps K →
    ∃ r, Instr.fill ((fl.map fun p => (p.1, p.2.2)).toArray[·]?) (renL β l) (ps.map fun p => (p.1, p.2.ren β)) = some (renL β r) ∧ (∀ v ∈ r, v.bel n) ∧ K r
  | [], l, K, _, hl, h => ⟨l, rfl, hl, h⟩
  | (i, v) :: ps, l, K, hp, hl, h => by
    obtain ⟨⟨off, ft, z⟩, hn, h⟩ := nth_of h
    obtain ⟨vs, hvs, hb, h⟩ := cellsK_of (β := β) h
    obtain ⟨hlen, h⟩ := ifB_of h
    obtain ⟨hlen, hpos⟩ := Bool.and_eq_true_iff.1 hlen
    have hlen : vs.length = z := Nat.eq_of_beq_eq_true hlen
    have hpos : 0 < z := of_decide_eq_true (by simpa [Nat.blt_eq] using hpos)
    obtain ⟨l', hl', hfit, h⟩ := lay_of h
    simp only at hl' hfit
    have hvb := hb n (hp (i, v) (by simp))
    have hmem : ∀ c ∈ l', c.bel n := by
      intro c hc
      rw [hl'] at hc
      rcases lay_mem hc with hc | hc
      · exact hl c hc
      · exact hvb c hc
    obtain ⟨r, hr, hrb, hk⟩ := fillS_of (ps := ps) (fun p hp' => hp p (by simp [hp'])) hmem h
    refine ⟨r, ?_, hrb, hk⟩
    rw [List.map_cons]
    unfold Instr.fill
    have hpl : (fl.map fun p => (p.1, p.2.2)).toArray[i]? = some (off, z) := by simp [hn]
    simp only [hvs, hpl]
    have hne : vs ≠ [] := by intro e; subst e; simp at hlen; omega
    have hf := hfit.resolve_right hne
    rw [if_neg (by simp [renL, hlen]; omega)]
    have e : (renL β vs).zipIdx.foldl (fun cs (x : Value × Nat) => cs.setIfInBounds (off + x.2) x.1) (renL β l) = renL β l' := by
      apply Array.toList_inj.1
      rw [← Array.foldl_toList]
      have := foldl_set (vs.map (C.ren β)) 0 off (renL β l) (by simp [renL]; omega)
      rw [Array.toList_zipIdx]
      refine this.trans ?_
      simp only [renL, Nat.add_zero, List.length_map, hl', List.map_append, List.map_take, List.map_drop]
    rw [← hr]
    congr 1
theorem places_of {fs : List Field} (h : ∀ f ∈ fs, ∃ i, P.info? f.type = some i) :
    fs.mapM (fun f => (P.info? f.type).map fun i => (f.offset, i.size)) = some (fs.map fun f => (f.offset, P.cellsOf f.type)) := by
  induction fs with
  | nil => rfl
  | cons f fs ih =>
    obtain ⟨i, hi⟩ := h f (by simp)
    simp [List.mapM_cons, hi, ih (fun g hg => h g (by simp [hg])), Program.cellsOf]
theorem buildS_of (hv : Valid tb P) (hr : Rel cx β s a w) {t : Nat} {parts : Array (Nat × Operand)} {K : T → List Fam → Prop} (h : xval tb s (.build t parts) K) :
    Val P cx β s a w K (do pure (.value (← Instr.build t (parts.map fun (i, x) => (i, a.eval x))))) := by
  obtain ⟨t0, h0⟩ := s
  obtain ⟨d, hd, h⟩ := td_of hv h
  obtain ⟨i, u, hi, hu, hs, _, hsh, hzz⟩ := Td.of_spec hd
  split at h
  · rename_i fl hfl
    obtain ⟨fs, rfl, rfl⟩ := shOf_struct (hsh.symm.trans hfl)
    obtain ⟨hall, h⟩ := ifB_of h
    obtain ⟨hz, h⟩ := ifB_of h
    obtain ⟨z, hz1, hzl, hz2⟩ := hzz hz
    obtain ⟨vs, hvs, hvb, h⟩ := partsK_of hr.tm hr.wf h
    obtain ⟨r, hrun, hrb, h⟩ := fillS_of (β := β) (n := h0.length) hvb (zero_flat hd h0.length) h
    have hinf : ∀ f ∈ fs.toList, ∃ i, P.info? f.type = some i := by
      intro f hf
      have := List.all_eq_true.1 hall (f.offset, f.type, P.cellsOf f.type) (List.mem_map.2 ⟨f, hf, rfl⟩)
      obtain ⟨q, hq, hqe⟩ := List.any_eq_true.1 this
      have hqe : q.1 = f.type := Nat.eq_of_beq_eq_true hqe
      obtain ⟨i, _, hi, _⟩ := Td.of_spec (hv q.1 q.2 hq)
      exact ⟨i, hqe ▸ hi⟩
    refine ⟨.a r, β, h0, w, andVw (?_ : Sem.run P (Instr.build t _) w = .ok (.agg (renL β r)) _), h, hrb, hr, fun _ _ _ => rfl, Nat.le_refl _⟩
    apply run_build
    have hparts : (Array.map (fun (x : Nat × Operand) => (x.1, a.eval x.2)) parts).toList = vs.map fun p => (p.1, p.2.ren β) := by
      rw [Array.toList_map, ← hvs]
    unfold Program.built
    rw [hparts]
    simp only [hi, hu, hz1, places_of hinf, hz2 β]
    rw [← hrun, List.map_map]
    rfl
  · rename_i n e hfl
    have := shOf_array (hsh.symm.trans hfl)
    subst this
    obtain ⟨de, hde, h⟩ := td_of hv h
    obtain ⟨i', u', hi', _, hs', _⟩ := Td.of_spec hde
    obtain ⟨hz, h⟩ := ifB_of h
    obtain ⟨vs, hvs, hvb, h⟩ := partsK_of hr.tm hr.wf h
    obtain ⟨r, hrun, hrl, hrb, h⟩ := fillK_of (β := β) (n := h0.length) hvb (zero_flat hd h0.length) h
    obtain ⟨z, hz1, hz2, hzl, i2, hi2, _⟩ := zero_of (β := β) (w := w) hd hz
    refine ⟨.a r, β, h0, w, andVw (?_ : Sem.run P (Instr.build t _) w = .ok (.agg (renL β r)) _), h, hrb, hr, fun _ _ _ => rfl, Nat.le_refl _⟩
    have hparts : (Array.map (fun (x : Nat × Operand) => (x.1, a.eval x.2)) parts).toList = vs.map fun p => (p.1, p.2.ren β) := by
      rw [Array.toList_map, ← hvs]
    have hsz : i'.size = de.size := hs'.symm
    simp only [Instr.build, Sem.run_bind, hz1, Result.andThen_ok, run_underlying hu, sizeOf, typeInfo, run_program, hi', Sem.run_pure, hz2, hsz, hparts, hrun]
  · exact h.elim
end Go.X
