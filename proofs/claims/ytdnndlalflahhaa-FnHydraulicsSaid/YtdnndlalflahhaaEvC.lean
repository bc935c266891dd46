/- The operations that leave memory as it is: what they yield. -/
import Derived.Test.YtdnndlalflahhaaEvB
import Derived.Laws.BytesArg
set_option linter.unusedVariables false
set_option linter.unusedSimpArgs false
namespace Go.Proofs.Ytdnndlalflahhaa.Ev
open Go Go.RowKit
def Let {α : Type} (e : α) (K : α → Prop) : Prop := ∀ r, r = e → K r
theorem Let.out {α : Type} {e : α} {K : α → Prop} (h : Let e K) : K e := h e rfl
/-! Types, looked up -/
def tElem (P : Program) (t : TypeId) : Option (Nat × Nat) :=
  match P.underlying t with
  | some (.slice e) => match P.info? e with
    | some i => some (e, i.size)
    | none => none
  | _ => none
def tArr (P : Program) (t : TypeId) : Option (Nat × Nat) :=
  match P.underlying t with
  | some (.array n e) => match P.info? e with
    | some i => some (n, i.size)
    | none => none
  | _ => none
def tAgg (P : Program) (t : TypeId) : Option (Option Nat) :=
  match P.underlying t, P.info? t with
  | some (.struct _), some i => some (some i.size)
  | some (.array _ _), some i => some (some i.size)
  | some _, some _ => some none
  | _, _ => none
def fOff (P : Program) (s f : Nat) : Option Nat :=
  match P.underlying s with
  | some (.struct fs) => match fs[f]? with
    | some fd => match P.info? fd.type with
      | some i => if i.size = 0 then none else some fd.offset
      | none => none
    | none => none
  | _ => none
def fPart (P : Program) (s f : Nat) : Option (Nat × Option Nat) :=
  match P.underlying s with
  | some (.struct fs) => match fs[f]? with
    | some fd => match tAgg P fd.type with
      | some g => some (fd.offset, g)
      | none => none
    | none => none
  | _ => none
def tArrP (P : Program) (t : TypeId) : Option (Nat × Nat × Option Nat) :=
  match P.underlying t with
  | some (.array n e) => match P.info? e, tAgg P e with
    | some i, some g => some (n, i.size, g)
    | _, _ => none
  | _ => none
def tKind (P : Program) (t : TypeId) : Option IntKind :=
  match P.underlying t with
  | some (.int k) => some k
  | _ => none
def tIsStr (P : Program) (t : TypeId) : Bool :=
  match P.underlying t with
  | some .string => true
  | _ => false
def tIsBool (P : Program) (t : TypeId) : Bool :=
  match P.underlying t with
  | some .bool => true
  | _ => false
def bitsI (op : BinOp) (k : IntKind) (x y : Int) : Int :=
  let a := BitVec.ofInt k.bits x
  let b := BitVec.ofInt k.bits y
  match op with
  | .and => k.wrap (a &&& b).toNat
  | .or => k.wrap (a ||| b).toNat
  | .xor => k.wrap (a ^^^ b).toNat
  | _ => k.wrap (a &&& ~~~b).toNat
def intBin (op : BinOp) (k : IntKind) (a b : Int) (K : AV → Prop) : Prop :=
  match op with
  | .add => Let (k.wrap (a + b)) fun r => K (.s (.int k r))
  | .sub => Let (k.wrap (a - b)) fun r => K (.s (.int k r))
  | .mul => Let (k.wrap (a * b)) fun r => K (.s (.int k r))
  | .quo => b ≠ 0 ∧ Let (k.wrap (a.tdiv b)) fun r => K (.s (.int k r))
  | .rem => b ≠ 0 ∧ Let (a.tmod b) fun r => K (.s (.int k r))
  | .and => Let (bitsI .and k a b) fun r => K (.s (.int k r))
  | .or => Let (bitsI .or k a b) fun r => K (.s (.int k r))
  | .xor => Let (bitsI .xor k a b) fun r => K (.s (.int k r))
  | .andNot => Let (bitsI .andNot k a b) fun r => K (.s (.int k r))
  | .eql => Let (a == b) fun r => K (.s (.bool r))
  | .neq => Let (a != b) fun r => K (.s (.bool r))
  | .lss => Let (decide (a < b)) fun r => K (.s (.bool r))
  | .leq => Let (decide (a ≤ b)) fun r => K (.s (.bool r))
  | .gtr => Let (decide (a > b)) fun r => K (.s (.bool r))
  | .geq => Let (decide (a ≥ b)) fun r => K (.s (.bool r))
  | .shl => 0 ≤ b ∧ Let (k.wrap (a * 2 ^ (min b.toNat k.bits))) fun r => K (.s (.int k r))
  | .shr => 0 ≤ b ∧ Let (a.fdiv (2 ^ (min b.toNat k.bits))) fun r => K (.s (.int k r))
def strBin (op : BinOp) (x y : ByteArray) (K : AV → Prop) : Prop :=
  match op with
  | .add => x.size + y.size ≤ 9223372036854775807 ∧ Let (x ++ y) fun r => K (.s (.string r))
  | .eql => Let (x.toList == y.toList) fun r => K (.s (.bool r))
  | .neq => Let (!(x.toList == y.toList)) fun r => K (.s (.bool r))
  | .lss => Let (Op.bytesLess x.toList y.toList) fun r => K (.s (.bool r))
  | .leq => Let (Op.bytesLess x.toList y.toList || x.toList == y.toList) fun r => K (.s (.bool r))
  | .gtr => Let (!(Op.bytesLess x.toList y.toList || x.toList == y.toList)) fun r => K (.s (.bool r))
  | .geq => Let (!Op.bytesLess x.toList y.toList) fun r => K (.s (.bool r))
  | _ => False
def eqTags (P : Program) : List Field → Nat → Option (List Nat)
  | [], _ => some []
  | f :: fs, o => if f.name ≠ "_" ∧ f.offset = o then
      match P.underlying f.type with
      | some (.int _) => (eqTags P fs (o + 1)).map (0 :: ·)
      | some .string => (eqTags P fs (o + 1)).map (1 :: ·)
      | some .bool => (eqTags P fs (o + 1)).map (2 :: ·)
      | _ => none
    else none
def tEq (P : Program) (t : TypeId) : Option (List Nat) :=
  match P.underlying t with
  | some (.struct fs) => if P.stoodInHeld t = false ∧ P.eqGuardType P.depth t = false then eqTags P fs.toList 0 else none
  | _ => none
def eqC : List Nat → List AV → List AV → Option Bool
  | [], _, _ => some true
  | 0 :: ts, .s (.int k a) :: xs, .s (.int k' b) :: ys => if k = k' then (eqC ts xs ys).map ((a == b) && ·) else none
  | 1 :: ts, .s (.string a) :: xs, .s (.string b) :: ys => (eqC ts xs ys).map ((a.toList == b.toList) && ·)
  | 2 :: ts, .s (.bool a) :: xs, .s (.bool b) :: ys => (eqC ts xs ys).map ((a == b) && ·)
  | _, _, _ => none
def tIfc (P : Program) (t : TypeId) : Bool := match P.underlying t with
  | some (.interface _) => true
  | _ => false
def isLitN : Operand → Bool
  | .const .nilIface => true
  | _ => false
def ifcBin (P : Program) (op : BinOp) (t : TypeId) (b : Bool) (K : AV → Prop) : Prop := tIfc P t = true ∧ (match op with
  | .eql => Let b fun r => K (.s (.bool r))
  | .neq => Let (!b) fun r => K (.s (.bool r))
  | _ => False)
def binQ (P : Program) (lit : Bool) (op : BinOp) (t : TypeId) (x y : AV) (K : AV → Prop) : Prop :=
  match x, y with
  | .s (.iface _ _), .s .nilIface => ifcBin P op t false K
  | .s .nilIface, .s .nilIface => lit = true ∧ ifcBin P op t true K
  | .s (.int k a), .s (.int k' b) => (k = k' ∨ op = .shl ∨ op = .shr) ∧ intBin op k a b K
  | .s (.string a), .s (.string b) => strBin op a b K
  | .s (.bool a), .s (.bool b) => tIsBool P t = true ∧ (match op with
    | .eql => Let (a == b) fun r => K (.s (.bool r))
    | .neq => Let (!(a == b)) fun r => K (.s (.bool r))
    | _ => False)
  | .agg as, .agg bs => ∃ ts r, isROs as = true ∧ isROs bs = true ∧ tEq P t = some ts ∧ eqC ts as bs = some r ∧ (match op with
    | .eql => Let r fun r => K (.s (.bool r))
    | .neq => Let (!r) fun r => K (.s (.bool r))
    | _ => False)
  | _, _ => False
def unQ (op : UnOp) (x : AV) (K : AV → Prop) : Prop :=
  match op, x with
  | .neg, .s (.int k n) => Let (k.wrap (0 - n)) fun r => K (.s (.int k r))
  | .not, .s (.bool b) => K (.s (.bool (!b)))
  | _, _ => False
def ptrQ (H : Nat → Option OB) (x : AV) (K : List AV → Prop) : Prop :=
  match x with
  | .rp cs => K cs
  | .ptr h o => (match H h with
    | some (.box _ cs) => K (cs.drop o)
    | _ => False)
  | .eptr h i o => (match H h with
    | some (.row _ _ es) => ∃ e, es[i]? = some e ∧ K ((flat e).drop o)
    | _ => False)
  | .nptr h i => K [.inr h i]
  | _ => False
def headQ (cs : List AV) (K : AV → Prop) : Prop :=
  match cs with
  | c :: _ => K c
  | [] => False
def loadQ (P : Program) (H : Nat → Option OB) (t : TypeId) (x : AV) (K : AV → Prop) : Prop :=
  match tAgg P t with
  | some (some n) => ptrQ H x fun cs => n ≤ cs.length ∧ K (.agg (cs.take n))
  | some none => ptrQ H x fun cs => headQ cs K
  | none => False
def idxQ (P : Program) (H : Nat → Option OB) (t : TypeId) (x i : AV) (K : AV → Prop) : Prop :=
  match i with
  | .s (.int _ n) => (match tElem P t with
    | some (_, sz) => (match x with
      | .lst sz' es => sz' = sz ∧ 0 ≤ n ∧ ∃ e, es[n.toNat]? = some e ∧ K (.rp (flat e))
      | .own h m => (match H h with
        | some (.row _ sz' _) => sz' = sz ∧ 0 ≤ n ∧ n < m ∧ K (.eptr h n.toNat 0)
        | _ => False)
      | .osl h j m => (match H h with
        | some (.row _ sz' _) => sz' = sz ∧ 0 ≤ n ∧ n < m ∧ K (.eptr h (j + n.toNat) 0)
        | _ => False)
      | .nst h m => sz = 1 ∧ 0 ≤ n ∧ n < m ∧ K (.nptr h n.toNat)
      | _ => False)
    | none => (match tArr P t with
      | some (len, sz) => (match x with
        | .rp cs => 0 ≤ n ∧ n < len ∧ K (.rp (cs.drop (n.toNat * sz)))
        | .ptr h o => 0 ≤ n ∧ n < len ∧ K (.ptr h (o + n.toNat * sz))
        | _ => False)
      | none => False))
  | _ => False
def capH : AV → Option Nat
  | .ptr h 0 => some h
  | _ => none
def capHs : List AV → Option (List Nat)
  | [] => some []
  | x :: xs => match capH x, capHs xs with
    | some h, some hs => some (h :: hs)
    | _, _ => none
def mkFnQ (f : Nat) (caps : List AV) (K : AV → Prop) : Prop :=
  match capHs caps with
  | some hs => K (.clo f hs)
  | none => caps.all isRO = true ∧ K (.fn f caps)
def partQ (cs : List AV) (off : Nat) (g : Option Nat) (K : AV → Prop) : Prop :=
  match g with
  | some n => off + n ≤ cs.length ∧ K (.agg ((cs.drop off).take n))
  | none => headQ (cs.drop off) K
def bndA (d : Nat) : Option AV → Option Int
  | none => some d
  | some (.s (.int _ n)) => some n
  | _ => none
def sliceQ (P : Program) (H : Nat → Option OB) (t : TypeId) (x : AV) (lo hi mx : Option AV) (K : AV → Prop) : Prop :=
  match x with
  | .s (.string s) => tIsStr P t = true ∧ mx = none ∧ (match bndA 0 lo, bndA s.size hi with
    | some l, some h => 0 ≤ l ∧ l ≤ h ∧ h ≤ s.size ∧ Let (s.extract l.toNat h.toNat) fun r => K (.s (.string r))
    | _, _ => False)
  | .lst sz es => (match tElem P t with
    | some (_, sz') => sz' = sz ∧ mx = none ∧ (match bndA 0 lo, bndA es.length hi with
      | some l, some h => 0 ≤ l ∧ l ≤ h ∧ h ≤ es.length ∧ Let ((es.take h.toNat).drop l.toNat) fun r => K (.lst sz r)
      | _, _ => False)
    | none => False)
  | .own h n => (match H h, tElem P t with
    | some (.row _ sz _), some (_, sz') => sz' = sz ∧ mx = none ∧ (match bndA 0 lo, bndA n hi with
      | some l, some h' => 0 ≤ l ∧ l ≤ h' ∧ h' ≤ n ∧ K (if lo.isNone = true then .own h h'.toNat else .osl h l.toNat (h'.toNat - l.toNat))
      | _, _ => False)
    | _, _ => False)
  | .osl h i n => (match H h, tElem P t with
    | some (.row _ sz _), some (_, sz') => sz' = sz ∧ mx = none ∧ (match bndA 0 lo, bndA n hi with
      | some l, some h' => 0 ≤ l ∧ l ≤ h' ∧ h' ≤ n ∧ K (.osl h (i + l.toNat) (h'.toNat - l.toNat))
      | _, _ => False)
    | _, _ => False)
  | _ => False
def lenQ (P : Program) (t : TypeId) (x : AV) (K : AV → Prop) : Prop :=
  match x with
  | .s (.string s) => tIsStr P t = true ∧ Let (s.size : Int) fun r => K (.s (.int .i64 r))
  | .lst _ es => (tElem P t).isSome = true ∧ Let (es.length : Int) fun r => K (.s (.int .i64 r))
  | .own _ n => (tElem P t).isSome = true ∧ Let (n : Int) (fun r => K (.s (.int .i64 r)))
  | .osl _ _ n => (tElem P t).isSome = true ∧ Let (n : Int) (fun r => K (.s (.int .i64 r)))
  | .nst _ n => (tElem P t).isSome = true ∧ Let (n : Int) (fun r => K (.s (.int .i64 r)))
  | .nil => (tElem P t).isSome = true ∧ K (.s (.int .i64 0))
  | _ => False
def mxI (a b : Int) : Int := if b > a then b else a
def mnI (a b : Int) : Int := if b < a then b else a
def mm2Q (f : Int → Int → Int) (x y : AV) (K : AV → Prop) : Prop :=
  match x, y with
  | .s (.int k a), .s (.int _ b) => Let (f a b) fun r => K (.s (.int k r))
  | _, _ => False
def biQ (P : Program) (st : St) (c : Call) (K : AV → Prop) : Prop :=
  match c.callee, c.args.toList, c.argTypes.toList with
  | .builtin .len, [x], [t] => lenQ P t (st.ev x) K
  | .builtin .max, [x, y], _ => mm2Q mxI (st.ev x) (st.ev y) K
  | .builtin .min, [x, y], _ => mm2Q mnI (st.ev x) (st.ev y) K
  | _, _, _ => False
def tIsBytes (P : Program) (t : TypeId) : Bool :=
  match P.underlying t with
  | some (.slice e) => (match P.underlying e with
    | some (.int .u8) => true
    | _ => false)
  | _ => false
def u8s : List AV → Option (List Int)
  | [] => some []
  | .s (.int .u8 n) :: cs => (match u8s cs with
    | some r => some (n :: r)
    | none => none)
  | _ => none
def txtQ (P : Program) (src dst : TypeId) (es : List AV) (K : AV → Prop) : Prop :=
  tIsBytes P src = true ∧ tIsStr P dst = true ∧ (match u8s es with
    | some xs => Let (strOfNums xs) fun r => K (.s (.string r))
    | none => False)
def convQ (P : Program) (H : Nat → Option OB) (src dst : TypeId) (x : AV) (K : AV → Prop) : Prop :=
  match x with
  | .s (.int _ n) => (match tKind P src, tKind P dst with
    | some _, some k => Let (k.wrap n) fun r => K (.s (.int k r))
    | _, _ => False)
  | .lst _ es => txtQ P src dst es K
  | .own h n => (match H h with
    | some (.row _ _ es) => txtQ P src dst (es.take n) K
    | _ => False)
  | .nil => txtQ P src dst [] K
  | _ => False
def opQ0 (P : Program) (st : St) (op : Op) (K : AV → Prop) : Prop :=
  match op with
  | .move x => K (st.ev x)
  | .assign x => K (st.ev x)
  | .pick c a b => (match st.ev c with
    | .s (.bool t) => K (if t = true then st.ev a else st.ev b)
    | _ => False)
  | .load t x => loadQ P st.H t (st.ev x) K
  | .nilCheck x => (match st.ev x with
    | .rp cs => K (.rp cs)
    | .ptr h o => K (.ptr h o)
    | .eptr h i o => K (.eptr h i o)
    | .fn f cs => K (.fn f cs)
    | .clo f hs => K (.clo f hs)
    | _ => False)
  | .binOp op t x y _ => binQ P (isLitN y) op t (st.ev x) (st.ev y) K
  | .unOp op _ x => unQ op (st.ev x) K
  | .convert src dst x => convQ P st.H src dst (st.ev x) K
  | .makeFunc (.func f) first caps => first.size = 0 ∧ mkFnQ f (caps.toList.map st.ev) K
  | .slice t x lo hi mx => sliceQ P st.H t (st.ev x) (lo.map st.ev) (hi.map st.ev) (mx.map st.ev) K
  | .fieldAddr s x f => (match fOff P s f, st.ev x with
    | some o, .rp cs => K (.rp (cs.drop o))
    | some o, .ptr h o' => K (.ptr h (o' + o))
    | some o, .eptr h i o' => K (.eptr h i (o' + o))
    | _, _ => False)
  | .field s x f => (match fPart P s f, st.ev x with
    | some (o, g), .agg cs => partQ cs o g K
    | _, _ => False)
  | .indexAddr t x i => idxQ P st.H t (st.ev x) (st.ev i) K
  | .index t x i => (match st.ev x, st.ev i with
    | .s (.string s), .s (.int _ n) => tIsStr P t = true ∧ 0 ≤ n ∧ ∃ b, s[n.toNat]? = some b ∧ Let (b.toNat : Int) fun r => K (.s (.int .u8 r))
    | .agg cs, .s (.int _ n) => ∃ len sz g, tArrP P t = some (len, sz, g) ∧ 0 ≤ n ∧ n < (len : Int) ∧ partQ cs (n.toNat * sz) g K
    | _, _ => False)
  | .extract x i => (match st.ev x with
    | .tup cs => ∃ v, cs[i]? = some v ∧ K v
    | _ => False)
  | .call c => biQ P st c K
  | _ => False
end Go.Proofs.Ytdnndlalflahhaa.Ev
