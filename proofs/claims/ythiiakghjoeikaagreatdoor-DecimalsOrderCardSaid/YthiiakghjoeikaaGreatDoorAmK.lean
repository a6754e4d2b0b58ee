/-
  An assertion layer over the model's wp, part K: what each operation gives, in the form in which a walk rewrites.
  Conditions: none. Nothing here is about a particular program.
-/
import Derived.Test.YthiiakghjoeikaaGreatDoorAmJ
set_option linter.unusedSimpArgs false
set_option linter.unnecessarySimpa false
set_option linter.unusedVariables false
namespace Go.AM

/-! ### The reading operations behind names -/
def pPick (c a b : AVal) : PR :=
  match c with
  | .bool c => ⟨True, pickV c a b⟩
  | _ => .no
def pBinX (P : Program) (op : BinOp) (t : TypeId) (x y : AVal) : PR :=
  match x, y with
  | .agg xs, .agg ys => pAggEq P op t (.agg xs) (.agg ys)
  | a, b => pBin P op t a b
def pExt (x : AVal) (i : Nat) : PR :=
  match x with
  | .tuple vs => ⟨i < vs.length, vs.getD i .dead⟩
  | _ => .no
def pNil (x : AVal) : PR :=
  match x with
  | .ptr l o => ⟨True, .ptr l o⟩
  | .func f c => ⟨True, .func f c⟩
  | _ => .no
def pBuild (P : Program) (t : TypeId) (ps : List (Nat × AVal)) : PR :=
  match buildA P t ps with
  | some cs => ⟨True, .agg cs⟩
  | none => .no

section
variable {P : Program} {w₀ : World} {h : AHeap} {s : Slots}
theorem pop_move (x : Operand) : pop P w₀ h s (.move x) = ⟨True, ev s x⟩ := rfl
theorem pop_assign (x : Operand) : pop P w₀ h s (.assign x) = ⟨True, ev s x⟩ := rfl
theorem pop_pick (c a b : Operand) : pop P w₀ h s (.pick c a b) = pPick (ev s c) (ev s a) (ev s b) := rfl
theorem pop_binOp (o : BinOp) (t : TypeId) (x y : Operand) (u : TypeId) : pop P w₀ h s (.binOp o t x y u) = bif isNilC y then pIfNil P o t (ev s x) else pBinX P o t (ev s x) (ev s y) := rfl
theorem isNilC_tmp (j : Nat) : isNilC (.tmp j) = false := rfl
theorem isNilC_glob (j : Nat) : isNilC (.global j) = false := rfl
theorem isNilC_func (j : Nat) : isNilC (.func j) = false := rfl
theorem isNilC_int (k : IntKind) (n : Int) : isNilC (.const (.int k n)) = false := rfl
theorem isNilC_str (b : ByteArray) : isNilC (.const (.string b)) = false := rfl
theorem isNilC_bool (b : Bool) : isNilC (.const (.bool b)) = false := rfl
theorem isNilC_ptr (a : Option Addr) : isNilC (.const (.pointer a)) = false := rfl
theorem isNilC_slice (a : Option Addr) (n c : Nat) : isNilC (.const (.slice a n c)) = false := rfl
theorem isNilC_nfunc : isNilC (.const .nilFunc) = false := rfl
theorem isNilC_map (m : Option Nat) : isNilC (.const (.map m)) = false := rfl
theorem isNilC_nil : isNilC (.const .nilIface) = true := rfl
theorem pIfNil_ne {t : TypeId} {m : Array (String × TypeId)} (ht : P.underlying t = some (.interface m)) : pIfNil P .neq t .nilIface = ⟨True, .bool false⟩ := by simp [pIfNil, ht]
theorem pIfNil_eq {t : TypeId} {m : Array (String × TypeId)} (ht : P.underlying t = some (.interface m)) : pIfNil P .eql t .nilIface = ⟨True, .bool true⟩ := by simp [pIfNil, ht]
theorem pIfNil_nei {t : TypeId} {m : Array (String × TypeId)} (ht : P.underlying t = some (.interface m)) (te : TypeId) (x : AVal) : pIfNil P .neq t (.iface te x) = ⟨True, .bool true⟩ := by simp [pIfNil, ht]
theorem pIfNil_eqi {t : TypeId} {m : Array (String × TypeId)} (ht : P.underlying t = some (.interface m)) (te : TypeId) (x : AVal) : pIfNil P .eql t (.iface te x) = ⟨True, .bool false⟩ := by simp [pIfNil, ht]
theorem pop_unOp (o : UnOp) (t : TypeId) (x : Operand) : pop P w₀ h s (.unOp o t x) = pUn o (ev s x) := rfl
theorem pop_convert (a b : TypeId) (x : Operand) : pop P w₀ h s (.convert a b x) = pConv P w₀ h a b (ev s x) := rfl
theorem pop_load (t : TypeId) (x : Operand) : pop P w₀ h s (.load t x) = pLoad P w₀ h t (ev s x) := rfl
theorem pop_field (t : TypeId) (x : Operand) (f : Nat) : pop P w₀ h s (.field t x f) = pField P t (ev s x) f := rfl
theorem pop_fieldAddr (t : TypeId) (x : Operand) (f : Nat) : pop P w₀ h s (.fieldAddr t x f) = pFieldAddr P t (ev s x) f := rfl
theorem pop_index (t : TypeId) (x i : Operand) : pop P w₀ h s (.index t x i) = pIndex P t (ev s x) (ev s i) := rfl
theorem pop_indexAddr (t : TypeId) (x i : Operand) : pop P w₀ h s (.indexAddr t x i) = pIndexAddr P t (ev s x) (ev s i) := rfl
theorem pop_slice (t : TypeId) (x : Operand) (a b c : Option Operand) : pop P w₀ h s (.slice t x a b c) = pSlice P t (ev s x) (evO s a) (evO s b) (evO s c) := rfl
theorem pop_extract (x : Operand) (i : Nat) : pop P w₀ h s (.extract x i) = pExt (ev s x) i := rfl
theorem pop_nilCheck (x : Operand) : pop P w₀ h s (.nilCheck x) = pNil (ev s x) := rfl
theorem pop_build (t : TypeId) (ps : List (Nat × Operand)) : pop P w₀ h s (.build t ps.toArray) = pBuild P t (evP s ps) := rfl
theorem pop_makeFunc (f : FuncId) (a c : List Operand) : pop P w₀ h s (.makeFunc (.func f) a.toArray c.toArray) = ⟨a = [], .func f (evs s c)⟩ := rfl
theorem pop_makeInterface (t : TypeId) (x : Operand) : pop P w₀ h s (.makeInterface t x) = ⟨P.concrete t = true, .iface t (ev s x)⟩ := rfl
theorem pop_len (x : Operand) (t : TypeId) (ts : List TypeId) : pop P w₀ h s (.call ⟨.builtin .len, [x].toArray, (t :: ts).toArray⟩) = pLen P t (ev s x) := rfl
theorem pop_cap (x : Operand) (t : TypeId) (ts : List TypeId) : pop P w₀ h s (.call ⟨.builtin .cap, [x].toArray, (t :: ts).toArray⟩) = pCap P t (ev s x) := rfl
theorem pop_max (a : List Operand) (t : Array TypeId) : pop P w₀ h s (.call ⟨.builtin .max, a.toArray, t⟩) = pMax (evs s a) := rfl
theorem pop_min (a : List Operand) (t : Array TypeId) : pop P w₀ h s (.call ⟨.builtin .min, a.toArray, t⟩) = pMin (evs s a) := rfl
end

/-! ### At values of a known shape -/
section
variable {P : Program}
theorem pPick_bool (c : Bool) (a b : AVal) : pPick (.bool c) a b = ⟨True, pickV c a b⟩ := rfl

def pIntX (op : BinOp) (k : IntKind) (a b : Int) : PR :=
  match op with
  | .shl => ⟨0 ≤ b, .int k (k.wrap (a * 2 ^ (min b.toNat k.bits)))⟩
  | .shr => ⟨0 ≤ b, .int k (a.fdiv (2 ^ (min b.toNat k.bits)))⟩
  | op => pInt op k a b

theorem pBinX_int (op : BinOp) (t : TypeId) (k : IntKind) (a b : Int) : pBinX P op t (.int k a) (.int k b) = pIntX op k a b := by
  cases op <;> simp [pBinX, pBin, pIntX]
theorem pBinX_shl (t : TypeId) (k k' : IntKind) (a b : Int) : pBinX P .shl t (.int k a) (.int k' b) = ⟨0 ≤ b, .int k (k.wrap (a * 2 ^ (min b.toNat k.bits)))⟩ := rfl
theorem pBinX_shr (t : TypeId) (k k' : IntKind) (a b : Int) : pBinX P .shr t (.int k a) (.int k' b) = ⟨0 ≤ b, .int k (a.fdiv (2 ^ (min b.toNat k.bits)))⟩ := rfl
theorem pBinX_str (op : BinOp) (t : TypeId) (a b : List UInt8) : pBinX P op t (.str a) (.str b) = pStr op a b := rfl
theorem pBinX_agg (op : BinOp) (t : TypeId) (a b : List AVal) : pBinX P op t (.agg a) (.agg b) = pAggEq P op t (.agg a) (.agg b) := rfl
theorem pBinX_beq (t : TypeId) (a b : Bool) : pBinX P .eql t (.bool a) (.bool b) = match P.underlying t with | some .bool => ⟨True, .bool (a == b)⟩ | _ => .no := rfl
theorem pBinX_bne (t : TypeId) (a b : Bool) : pBinX P .neq t (.bool a) (.bool b) = match P.underlying t with | some .bool => ⟨True, .bool (!(a == b))⟩ | _ => .no := rfl

theorem pI_add (k : IntKind) (a b : Int) : pIntX .add k a b = ⟨True, .int k (k.wrap (a + b))⟩ := rfl
theorem pI_sub (k : IntKind) (a b : Int) : pIntX .sub k a b = ⟨True, .int k (k.wrap (a - b))⟩ := rfl
theorem pI_mul (k : IntKind) (a b : Int) : pIntX .mul k a b = ⟨True, .int k (k.wrap (a * b))⟩ := rfl
theorem pI_quo (k : IntKind) (a b : Int) : pIntX .quo k a b = ⟨b ≠ 0, .int k (k.wrap (a.tdiv b))⟩ := rfl
theorem pI_rem (k : IntKind) (a b : Int) : pIntX .rem k a b = ⟨b ≠ 0, .int k (a.tmod b)⟩ := rfl
theorem pI_eql (k : IntKind) (a b : Int) : pIntX .eql k a b = ⟨True, .bool (decide (a = b))⟩ := rfl
theorem pI_neq (k : IntKind) (a b : Int) : pIntX .neq k a b = ⟨True, .bool (!decide (a = b))⟩ := rfl
theorem pI_lss (k : IntKind) (a b : Int) : pIntX .lss k a b = ⟨True, .bool (decide (a < b))⟩ := rfl
theorem pI_leq (k : IntKind) (a b : Int) : pIntX .leq k a b = ⟨True, .bool (decide (a ≤ b))⟩ := rfl
theorem pI_gtr (k : IntKind) (a b : Int) : pIntX .gtr k a b = ⟨True, .bool (decide (b < a))⟩ := rfl
theorem pI_geq (k : IntKind) (a b : Int) : pIntX .geq k a b = ⟨True, .bool (decide (b ≤ a))⟩ := rfl
theorem pS_add (a b : List UInt8) : pStr .add a b = ⟨a.length + b.length < 9223372036854775808, .str (a ++ b)⟩ := rfl
theorem pS_eql (a b : List UInt8) : pStr .eql a b = ⟨True, .bool (decide (a = b))⟩ := rfl
theorem pS_neq (a b : List UInt8) : pStr .neq a b = ⟨True, .bool (!decide (a = b))⟩ := rfl
theorem pS_lss (a b : List UInt8) : pStr .lss a b = ⟨True, .bool (Op.bytesLess a b)⟩ := rfl
theorem pS_leq (a b : List UInt8) : pStr .leq a b = ⟨True, .bool (Op.bytesLess a b || decide (a = b))⟩ := rfl
theorem pS_gtr (a b : List UInt8) : pStr .gtr a b = ⟨True, .bool (!(Op.bytesLess a b || decide (a = b)))⟩ := rfl
theorem pS_geq (a b : List UInt8) : pStr .geq a b = ⟨True, .bool (!Op.bytesLess a b)⟩ := rfl
theorem pU_not (b : Bool) : pUn .not (.bool b) = ⟨True, .bool (!b)⟩ := rfl
theorem pU_neg (k : IntKind) (n : Int) : pUn .neg (.int k n) = ⟨True, .int k (k.wrap (0 - n))⟩ := rfl
theorem pExt_tuple (vs : List AVal) (i : Nat) : pExt (.tuple vs) i = ⟨i < vs.length, vs.getD i .dead⟩ := rfl
theorem pNil_ptr (l : Loc) (o : Nat) : pNil (.ptr l o) = ⟨True, .ptr l o⟩ := rfl
theorem pNil_func (f : FuncId) (c : List AVal) : pNil (.func f c) = ⟨True, .func f c⟩ := rfl

variable {w₀ : World} {h : AHeap}
theorem pConv_int {t u : TypeId} {d : TypeDesc} {k : IntKind} (ht : P.underlying t = some d) (hu : P.underlying u = some (.int k)) (k' : IntKind) (n : Int) : pConv P w₀ h t u (.int k' n) = ⟨True, .int k (k.wrap n)⟩ := by
  simp only [pConv, ht, hu]
theorem pConv_str {t u : TypeId} (ht : P.underlying t = some .string) (hu : P.underlying u = some .string) (s : List UInt8) : pConv P w₀ h t u (.str s) = ⟨True, .str s⟩ := by
  simp only [pConv, ht, hu]
theorem pConv_nil {t u e : TypeId} (ht : P.underlying t = some (.slice e)) (hu : P.underlying u = some .string) (he : P.underlying e = some (.int .u8)) : pConv P w₀ h t u .nilSlice = ⟨True, .str []⟩ := by
  simp only [pConv, ht, hu, he]
theorem pConv_bytes {t u e : TypeId} (ht : P.underlying t = some (.slice e)) (hu : P.underlying u = some .string) (he : P.underlying e = some (.int .u8)) (l : Loc) (o len : Nat) (c : Cap) :
    pConv P w₀ h t u (.slice l o len c) = ⟨(cellsAt w₀ h l o len).all AVal.isU8 = true, .str ((cellsAt w₀ h l o len).map AVal.byte)⟩ := by
  simp only [pConv, ht, hu, he]
theorem pIndex_str {t : TypeId} (ht : P.underlying t = some .string) (s : List UInt8) (k : IntKind) (n : Int) : pIndex P t (.str s) (.int k n) = ⟨0 ≤ n ∧ n < s.length, .int .u8 (s.getD n.toNat 0).toNat⟩ := by
  simp only [pIndex, ht]
theorem pIndexAddr_slice {t e : TypeId} {es : Nat} (ht : P.underlying t = some (.slice e)) (hs : szOf P e = some es) (l : Loc) (o len : Nat) (c : Cap) (k : IntKind) (n : Int) :
    pIndexAddr P t (.slice l o len c) (.int k n) = ⟨0 ≤ n ∧ n < len, .ptr l (o + n.toNat * es)⟩ := by
  simp only [pIndexAddr, ht, hs]
theorem pIndexAddr_ptr {t e : TypeId} {es len : Nat} (ht : P.underlying t = some (.array len e)) (hs : szOf P e = some es) (l : Loc) (o : Nat) (k : IntKind) (n : Int) :
    pIndexAddr P t (.ptr l o) (.int k n) = ⟨0 ≤ n ∧ n < len, .ptr l (o + n.toNat * es)⟩ := by
  simp only [pIndexAddr, ht, hs]
theorem pLoad_one {t : TypeId} (ha : aggOf P t = some false) (l : Loc) (o : Nat) : pLoad P w₀ h t (.ptr l o) = ⟨(rd w₀ h l o).live = true, rd w₀ h l o⟩ := by
  simp only [pLoad, ha]
theorem pLoad_agg {t : TypeId} {n : Nat} (ha : aggOf P t = some true) (hn : szOf P t = some n) (l : Loc) (o : Nat) : pLoad P w₀ h t (.ptr l o) = ⟨allLive (cellsAt w₀ h l o n) = true, .agg (cellsAt w₀ h l o n)⟩ := by
  simp only [pLoad, ha, hn]
theorem pLen_str {t : TypeId} (ht : P.underlying t = some .string) (s : List UInt8) : pLen P t (.str s) = ⟨True, .int .i64 s.length⟩ := by
  simp only [pLen, ht]
theorem pLen_slice {t e : TypeId} (ht : P.underlying t = some (.slice e)) (l : Loc) (o n : Nat) (c : Cap) : pLen P t (.slice l o n c) = ⟨True, .int .i64 n⟩ := by
  simp only [pLen, ht]
theorem pLen_nil {t e : TypeId} (ht : P.underlying t = some (.slice e)) : pLen P t .nilSlice = ⟨True, .int .i64 0⟩ := by
  simp only [pLen, ht]
theorem pCap_slice {t e : TypeId} (ht : P.underlying t = some (.slice e)) (l : Loc) (o n c : Nat) : pCap P t (.slice l o n (.exact c)) = ⟨True, .int .i64 c⟩ := by
  simp only [pCap, ht]
theorem pCap_nil {t e : TypeId} (ht : P.underlying t = some (.slice e)) : pCap P t .nilSlice = ⟨True, .int .i64 0⟩ := by
  simp only [pCap, ht]
theorem pMax_int (k k' : IntKind) (a b : Int) : pMax [.int k a, .int k' b] = ⟨True, .int k (max a b)⟩ := rfl
theorem pMin_int (k k' : IntKind) (a b : Int) : pMin [.int k a, .int k' b] = ⟨True, .int k (min a b)⟩ := rfl
theorem pSlice_str {t : TypeId} (ht : P.underlying t = some .string) (s : List UInt8) (lo hi : Option AVal) {l r : Int} (hl : bndA lo 0 = some l) (hh : bndA hi s.length = some r) :
    pSlice P t (.str s) lo hi none = ⟨0 ≤ l ∧ l ≤ r ∧ r ≤ s.length, .str ((s.drop l.toNat).take (r.toNat - l.toNat))⟩ := by
  simp only [pSlice, ht, hl, hh]
end

/-! ### Values under a guard, in an operation under the same guard -/
section
variable {P : Program} {w₀ : World} {h : AHeap}
theorem cv_cv (g : Bool) (v : AVal) : condV g (condV g v) = condV g v := by cases g <;> rfl
theorem cv_pick (g : Bool) (c a b : AVal) : condV g (pPick (condV g c) a b).val = condV g (pPick c a b).val := by cases g <;> rfl
theorem cp_pick (g : Bool) (c a b : AVal) : (g = true → (pPick (condV g c) a b).pre) = (g = true → (pPick c a b).pre) := by cases g <;> simp [condV]
theorem cv_binl (o : BinOp) (t : TypeId) (g : Bool) (x y : AVal) : condV g (pBinX P o t (condV g x) y).val = condV g (pBinX P o t x y).val := by cases g <;> rfl
theorem cv_binr (o : BinOp) (t : TypeId) (g : Bool) (x y : AVal) : condV g (pBinX P o t x (condV g y)).val = condV g (pBinX P o t x y).val := by cases g <;> rfl
theorem cp_binl (o : BinOp) (t : TypeId) (g : Bool) (x y : AVal) : (g = true → (pBinX P o t (condV g x) y).pre) = (g = true → (pBinX P o t x y).pre) := by cases g <;> simp [condV]
theorem cp_binr (o : BinOp) (t : TypeId) (g : Bool) (x y : AVal) : (g = true → (pBinX P o t x (condV g y)).pre) = (g = true → (pBinX P o t x y).pre) := by cases g <;> simp [condV]
theorem cv_un (o : UnOp) (g : Bool) (x : AVal) : condV g (pUn o (condV g x)).val = condV g (pUn o x).val := by cases g <;> rfl
theorem cp_un (o : UnOp) (g : Bool) (x : AVal) : (g = true → (pUn o (condV g x)).pre) = (g = true → (pUn o x).pre) := by cases g <;> simp [condV]
theorem cv_conv (t u : TypeId) (g : Bool) (x : AVal) : condV g (pConv P w₀ h t u (condV g x)).val = condV g (pConv P w₀ h t u x).val := by cases g <;> rfl
theorem cp_conv (t u : TypeId) (g : Bool) (x : AVal) : (g = true → (pConv P w₀ h t u (condV g x)).pre) = (g = true → (pConv P w₀ h t u x).pre) := by cases g <;> simp [condV]
theorem cv_load (t : TypeId) (g : Bool) (x : AVal) : condV g (pLoad P w₀ h t (condV g x)).val = condV g (pLoad P w₀ h t x).val := by cases g <;> rfl
theorem cp_load (t : TypeId) (g : Bool) (x : AVal) : (g = true → (pLoad P w₀ h t (condV g x)).pre) = (g = true → (pLoad P w₀ h t x).pre) := by cases g <;> simp [condV]
theorem cv_field (t : TypeId) (f : Nat) (g : Bool) (x : AVal) : condV g (pField P t (condV g x) f).val = condV g (pField P t x f).val := by cases g <;> rfl
theorem cp_field (t : TypeId) (f : Nat) (g : Bool) (x : AVal) : (g = true → (pField P t (condV g x) f).pre) = (g = true → (pField P t x f).pre) := by cases g <;> simp [condV]
theorem cv_fieldAddr (t : TypeId) (f : Nat) (g : Bool) (x : AVal) : condV g (pFieldAddr P t (condV g x) f).val = condV g (pFieldAddr P t x f).val := by cases g <;> rfl
theorem cp_fieldAddr (t : TypeId) (f : Nat) (g : Bool) (x : AVal) : (g = true → (pFieldAddr P t (condV g x) f).pre) = (g = true → (pFieldAddr P t x f).pre) := by cases g <;> simp [condV]
theorem cv_indexl (t : TypeId) (g : Bool) (x y : AVal) : condV g (pIndex P t (condV g x) y).val = condV g (pIndex P t x y).val := by cases g <;> rfl
theorem cv_indexr (t : TypeId) (g : Bool) (x y : AVal) : condV g (pIndex P t x (condV g y)).val = condV g (pIndex P t x y).val := by cases g <;> rfl
theorem cp_indexl (t : TypeId) (g : Bool) (x y : AVal) : (g = true → (pIndex P t (condV g x) y).pre) = (g = true → (pIndex P t x y).pre) := by cases g <;> simp [condV]
theorem cp_indexr (t : TypeId) (g : Bool) (x y : AVal) : (g = true → (pIndex P t x (condV g y)).pre) = (g = true → (pIndex P t x y).pre) := by cases g <;> simp [condV]
theorem cv_iaddrl (t : TypeId) (g : Bool) (x y : AVal) : condV g (pIndexAddr P t (condV g x) y).val = condV g (pIndexAddr P t x y).val := by cases g <;> rfl
theorem cv_iaddrr (t : TypeId) (g : Bool) (x y : AVal) : condV g (pIndexAddr P t x (condV g y)).val = condV g (pIndexAddr P t x y).val := by cases g <;> rfl
theorem cp_iaddrl (t : TypeId) (g : Bool) (x y : AVal) : (g = true → (pIndexAddr P t (condV g x) y).pre) = (g = true → (pIndexAddr P t x y).pre) := by cases g <;> simp [condV]
theorem cp_iaddrr (t : TypeId) (g : Bool) (x y : AVal) : (g = true → (pIndexAddr P t x (condV g y)).pre) = (g = true → (pIndexAddr P t x y).pre) := by cases g <;> simp [condV]
theorem cv_ext (i : Nat) (g : Bool) (x : AVal) : condV g (pExt (condV g x) i).val = condV g (pExt x i).val := by cases g <;> rfl
theorem cp_ext (i : Nat) (g : Bool) (x : AVal) : (g = true → (pExt (condV g x) i).pre) = (g = true → (pExt x i).pre) := by cases g <;> simp [condV]
theorem cv_nil (g : Bool) (x : AVal) : condV g (pNil (condV g x)).val = condV g (pNil x).val := by cases g <;> rfl
theorem cp_nil (g : Bool) (x : AVal) : (g = true → (pNil (condV g x)).pre) = (g = true → (pNil x).pre) := by cases g <;> simp [condV]
theorem cv_len (t : TypeId) (g : Bool) (x : AVal) : condV g (pLen P t (condV g x)).val = condV g (pLen P t x).val := by cases g <;> rfl
theorem cp_len (t : TypeId) (g : Bool) (x : AVal) : (g = true → (pLen P t (condV g x)).pre) = (g = true → (pLen P t x).pre) := by cases g <;> simp [condV]
theorem cv_slice (t : TypeId) (lo hi mx : Option AVal) (g : Bool) (x : AVal) : condV g (pSlice P t (condV g x) lo hi mx).val = condV g (pSlice P t x lo hi mx).val := by cases g <;> rfl
theorem cp_slice (t : TypeId) (lo hi mx : Option AVal) (g : Bool) (x : AVal) : (g = true → (pSlice P t (condV g x) lo hi mx).pre) = (g = true → (pSlice P t x lo hi mx).pre) := by cases g <;> simp [condV]
theorem cv_slicelo (t : TypeId) (x : AVal) (hi mx : Option AVal) (g : Bool) (lo : AVal) : condV g (pSlice P t x (some (condV g lo)) hi mx).val = condV g (pSlice P t x (some lo) hi mx).val := by cases g <;> rfl
theorem cp_slicelo (t : TypeId) (x : AVal) (hi mx : Option AVal) (g : Bool) (lo : AVal) : (g = true → (pSlice P t x (some (condV g lo)) hi mx).pre) = (g = true → (pSlice P t x (some lo) hi mx).pre) := by cases g <;> simp [condV]
theorem cv_slicehi (t : TypeId) (x : AVal) (lo mx : Option AVal) (g : Bool) (hi : AVal) : condV g (pSlice P t x lo (some (condV g hi)) mx).val = condV g (pSlice P t x lo (some hi) mx).val := by cases g <;> rfl
theorem cp_slicehi (t : TypeId) (x : AVal) (lo mx : Option AVal) (g : Bool) (hi : AVal) : (g = true → (pSlice P t x lo (some (condV g hi)) mx).pre) = (g = true → (pSlice P t x lo (some hi) mx).pre) := by cases g <;> simp [condV]

theorem pickV_and (c x : Bool) : pickV c (.bool x) (.bool false) = .bool (c && x) := by cases c <;> rfl
theorem pickV_or (c x : Bool) : pickV c (.bool true) (.bool x) = .bool (c || x) := by cases c <;> rfl
end

/-! ### A guarded operation: the slots of the guards stand in `ops` -/
section
variable {P : Program} {w₀ : World} {ops rest : List Oper} {s : Slots} {h : AHeap} {K : Slots → AHeap → Prop} {dst : Option Tmp} {ty : TypeId} {pos : String} {af : Array Edge}

/-- The value of the guard. -/
def gv (s : Slots) (ops : List Oper) (j : Nat) : AVal := match nthDst ops j with | some d => s.get d | none => .dead
def agP (P : Program) (w₀ : World) (ops rest : List Oper) (s : Slots) (h : AHeap) (K : Slots → AHeap → Prop) (dst : Option Tmp) (g : AVal) (want : Bool) (r : PR) : Prop :=
  gKnown g = true ∧ (guardB g want = true → r.pre) ∧ aOps P w₀ ops rest (putD s dst (condV (guardB g want) r.val)) h K

theorem ag_of {op : Op} {j : Nat} {want : Bool} (hp : pureOp P op = true) (hg : agP P w₀ ops rest s h K dst (gv s ops j) want (pop P w₀ h s op)) :
    aOps P w₀ ops (⟨dst, op, ty, pos, af, some (j, want)⟩ :: rest) s h K := by
  unfold gv at hg
  cases hj : nthDst ops j with
  | none => rw [hj] at hg; cases hg.1
  | some d => rw [hj] at hg; rw [aOps_g hj hp]; exact hg

def agQ (P : Program) (w₀ : World) (ops rest : List Oper) (s : Slots) (h : AHeap) (K : Slots → AHeap → Prop) (dst : Option Tmp) (want : Bool) (r : PR) : Option Tmp → Prop
  | none => aOps P w₀ ops rest (putD s dst (.tuple [])) h K
  | some d => agP P w₀ ops rest s h K dst (s.get d) want r
theorem agQ_some {want : Bool} {r : PR} {d : Tmp} : agQ P w₀ ops rest s h K dst want r (some d) = agP P w₀ ops rest s h K dst (s.get d) want r := rfl
theorem agE {op : Op} {j : Nat} {want : Bool} (hp : pureOp P op = true) :
    aOps P w₀ ops (⟨dst, op, ty, pos, af, some (j, want)⟩ :: rest) s h K = agQ P w₀ ops rest s h K dst want (pop P w₀ h s op) (nthDst ops j) := by
  cases hd : nthDst ops j with
  | none => simp only [aOps, hd, agQ]
  | some d => rw [aOps_g hd hp]; rfl
theorem ag_move (x : Operand) {j : Nat} {want : Bool} :
    aOps P w₀ ops (⟨dst, .move x, ty, pos, af, some (j, want)⟩ :: rest) s h K = agQ P w₀ ops rest s h K dst want (pop P w₀ h s (.move x)) (nthDst ops j) := agE (pu_move x)
theorem ag_assign (x : Operand) {j : Nat} {want : Bool} :
    aOps P w₀ ops (⟨dst, .assign x, ty, pos, af, some (j, want)⟩ :: rest) s h K = agQ P w₀ ops rest s h K dst want (pop P w₀ h s (.assign x)) (nthDst ops j) := agE (pu_assign x)
theorem ag_pick (c a b : Operand) {j : Nat} {want : Bool} :
    aOps P w₀ ops (⟨dst, .pick c a b, ty, pos, af, some (j, want)⟩ :: rest) s h K = agQ P w₀ ops rest s h K dst want (pop P w₀ h s (.pick c a b)) (nthDst ops j) := agE (pu_pick c a b)
theorem ag_binOp (o : BinOp) (t : TypeId) (x y : Operand) (u : TypeId) {j : Nat} {want : Bool} :
    aOps P w₀ ops (⟨dst, .binOp o t x y u, ty, pos, af, some (j, want)⟩ :: rest) s h K = agQ P w₀ ops rest s h K dst want (pop P w₀ h s (.binOp o t x y u)) (nthDst ops j) := agE (pu_binOp o t x y u)
theorem ag_unOp (o : UnOp) (t : TypeId) (x : Operand) {j : Nat} {want : Bool} :
    aOps P w₀ ops (⟨dst, .unOp o t x, ty, pos, af, some (j, want)⟩ :: rest) s h K = agQ P w₀ ops rest s h K dst want (pop P w₀ h s (.unOp o t x)) (nthDst ops j) := agE (pu_unOp o t x)
theorem ag_load (t : TypeId) (x : Operand) {j : Nat} {want : Bool} :
    aOps P w₀ ops (⟨dst, .load t x, ty, pos, af, some (j, want)⟩ :: rest) s h K = agQ P w₀ ops rest s h K dst want (pop P w₀ h s (.load t x)) (nthDst ops j) := agE (pu_load t x)
theorem ag_field (t : TypeId) (x : Operand) (f : Nat) {j : Nat} {want : Bool} :
    aOps P w₀ ops (⟨dst, .field t x f, ty, pos, af, some (j, want)⟩ :: rest) s h K = agQ P w₀ ops rest s h K dst want (pop P w₀ h s (.field t x f)) (nthDst ops j) := agE (pu_field t x f)
theorem ag_fieldAddr (t : TypeId) (x : Operand) (f : Nat) {j : Nat} {want : Bool} :
    aOps P w₀ ops (⟨dst, .fieldAddr t x f, ty, pos, af, some (j, want)⟩ :: rest) s h K = agQ P w₀ ops rest s h K dst want (pop P w₀ h s (.fieldAddr t x f)) (nthDst ops j) := agE (pu_fieldAddr t x f)
theorem ag_index (t : TypeId) (x i : Operand) {j : Nat} {want : Bool} :
    aOps P w₀ ops (⟨dst, .index t x i, ty, pos, af, some (j, want)⟩ :: rest) s h K = agQ P w₀ ops rest s h K dst want (pop P w₀ h s (.index t x i)) (nthDst ops j) := agE (pu_index t x i)
theorem ag_indexAddr (t : TypeId) (x i : Operand) {j : Nat} {want : Bool} :
    aOps P w₀ ops (⟨dst, .indexAddr t x i, ty, pos, af, some (j, want)⟩ :: rest) s h K = agQ P w₀ ops rest s h K dst want (pop P w₀ h s (.indexAddr t x i)) (nthDst ops j) := agE (pu_indexAddr t x i)
theorem ag_slice (t : TypeId) (x : Operand) (a b c : Option Operand) {j : Nat} {want : Bool} :
    aOps P w₀ ops (⟨dst, .slice t x a b c, ty, pos, af, some (j, want)⟩ :: rest) s h K = agQ P w₀ ops rest s h K dst want (pop P w₀ h s (.slice t x a b c)) (nthDst ops j) := agE (pu_slice t x a b c)
theorem ag_extract (x : Operand) (i : Nat) {j : Nat} {want : Bool} :
    aOps P w₀ ops (⟨dst, .extract x i, ty, pos, af, some (j, want)⟩ :: rest) s h K = agQ P w₀ ops rest s h K dst want (pop P w₀ h s (.extract x i)) (nthDst ops j) := agE (pu_extract x i)
theorem ag_nilCheck (x : Operand) {j : Nat} {want : Bool} :
    aOps P w₀ ops (⟨dst, .nilCheck x, ty, pos, af, some (j, want)⟩ :: rest) s h K = agQ P w₀ ops rest s h K dst want (pop P w₀ h s (.nilCheck x)) (nthDst ops j) := agE (pu_nilCheck x)
theorem ag_build (t : TypeId) (p : Array (Nat × Operand)) {j : Nat} {want : Bool} :
    aOps P w₀ ops (⟨dst, .build t p, ty, pos, af, some (j, want)⟩ :: rest) s h K = agQ P w₀ ops rest s h K dst want (pop P w₀ h s (.build t p)) (nthDst ops j) := agE (pu_build t p)
theorem ag_makeFunc (f : Fn) (a b : Array Operand) {j : Nat} {want : Bool} :
    aOps P w₀ ops (⟨dst, .makeFunc f a b, ty, pos, af, some (j, want)⟩ :: rest) s h K = agQ P w₀ ops rest s h K dst want (pop P w₀ h s (.makeFunc f a b)) (nthDst ops j) := agE (pu_makeFunc f a b)
theorem ag_makeInterface (t : TypeId) (x : Operand) {j : Nat} {want : Bool} :
    aOps P w₀ ops (⟨dst, .makeInterface t x, ty, pos, af, some (j, want)⟩ :: rest) s h K = agQ P w₀ ops rest s h K dst want (pop P w₀ h s (.makeInterface t x)) (nthDst ops j) := agE (pu_makeInterface t x)
theorem ag_len (a : Array Operand) (t : Array TypeId) {j : Nat} {want : Bool} :
    aOps P w₀ ops (⟨dst, .call ⟨.builtin .len, a, t⟩, ty, pos, af, some (j, want)⟩ :: rest) s h K = agQ P w₀ ops rest s h K dst want (pop P w₀ h s (.call ⟨.builtin .len, a, t⟩)) (nthDst ops j) := agE (pu_len a t)
theorem ag_cap (a : Array Operand) (t : Array TypeId) {j : Nat} {want : Bool} :
    aOps P w₀ ops (⟨dst, .call ⟨.builtin .cap, a, t⟩, ty, pos, af, some (j, want)⟩ :: rest) s h K = agQ P w₀ ops rest s h K dst want (pop P w₀ h s (.call ⟨.builtin .cap, a, t⟩)) (nthDst ops j) := agE (pu_cap a t)
theorem ag_max (a : Array Operand) (t : Array TypeId) {j : Nat} {want : Bool} :
    aOps P w₀ ops (⟨dst, .call ⟨.builtin .max, a, t⟩, ty, pos, af, some (j, want)⟩ :: rest) s h K = agQ P w₀ ops rest s h K dst want (pop P w₀ h s (.call ⟨.builtin .max, a, t⟩)) (nthDst ops j) := agE (pu_max a t)
theorem ag_min (a : Array Operand) (t : Array TypeId) {j : Nat} {want : Bool} :
    aOps P w₀ ops (⟨dst, .call ⟨.builtin .min, a, t⟩, ty, pos, af, some (j, want)⟩ :: rest) s h K = agQ P w₀ ops rest s h K dst want (pop P w₀ h s (.call ⟨.builtin .min, a, t⟩)) (nthDst ops j) := agE (pu_min a t)

/-- A call under a guard whose answer is one value and that leaves the heap. -/
theorem aOps_gcall {fo : Operand} {args : Array Operand} {ts : Array TypeId} {j : Nat} {want : Bool} {f : FuncId} {cap xs : List AVal} {V : AVal} (hk : gKnown (gv s ops j) = true)
    (hf : guardB (gv s ops j) want = true → ev s fo = .func f cap ∧ evs s args.toList ++ cap = xs) (hc : guardB (gv s ops j) want = true → ACall P w₀ f xs h (fun x h' => x = V ∧ h' = h))
    (hr : aOps P w₀ ops rest (putD s dst (condV (guardB (gv s ops j) want) V)) h K) :
    aOps P w₀ ops (⟨dst, .call ⟨.value fo, args, ts⟩, ty, pos, af, some (j, want)⟩ :: rest) s h K := by
  unfold gv at hk hf hc hr
  cases hj : nthDst ops j with
  | none => rw [hj] at hk; cases hk
  | some d =>
    simp only [hj] at hk hf hc hr
    refine aOps_ge hj rfl hk (fun hb => ?_) (fun hb => ?_)
    · refine aOps_call (hf hb).1 (hf hb).2 (hc hb) fun x h' ⟨e1, e2⟩ => ?_
      subst e1 e2
      simpa [hb, condV] using hr
    · simpa [hb, condV] using hr
end


/-! ### Loops and joins, by a ghost value -/
section
variable {P : Program} {w₀ : World} {n : Nat} {s : Slots} {h : AHeap} {Q : Exit → Slots → AHeap → Prop}

theorem keep_get (s : Slots) (L : List Nat) (i : Nat) : (s.keep L).get i = s.get i ∨ (s.keep L).get i = .dead := by
  rw [Slots.get_keep]
  split
  · exact .inl rfl
  · exact .inr rfl

/-- A heap of which the other keeps all. -/
def Sub (h' h : AHeap) : Prop := ∀ k b, h' k = some b → h k = some b
theorem Sub.refl (h : AHeap) : Sub h h := fun _ _ e => e
theorem Sub.trans {a b c : AHeap} (x : Sub a b) (y : Sub b c) : Sub a c := fun k v e => y k v (x k v e)
theorem Sub.set {h : AHeap} {k : Nat} {b : Blk} (hk : h k = none) : Sub h (h.set k b) := fun j c e => by
  by_cases ej : j = k
  · subst ej; rw [hk] at e; cases e
  · rw [AHeap.set_ne _ _ ej]; exact e
theorem Sub.trans_set {h' h : AHeap} {k : Nat} {b : Blk} (hs : Sub h' h) (hk : h' k = none) : Sub h' (h.set k b) := fun j c e => by
  by_cases ej : j = k
  · subst ej; rw [hk] at e; cases e
  · rw [AHeap.set_ne _ _ ej]; exact hs j c e
theorem Sub.none {h' h : AHeap} (hs : Sub h' h) {k : Nat} (hk : h k = none) : h' k = none := by
  cases e : h' k with
  | none => rfl
  | some b => rw [hs k b e] at hk; cases hk

theorem awp_loopG {γ : Type} {c : Code} (L : List Nat) (S : γ → Slots) (H : γ → AHeap) (I : γ → Prop) (m : γ → Nat) (g₀ : γ) (hs : s.keep L = S g₀) (hh : Sub (H g₀) h) (hi : I g₀)
    (round : ∀ g, I g → Awp P w₀ n c (thenA (fun s' h' => ∃ g', s'.keep L = S g' ∧ Sub (H g') h' ∧ I g' ∧ m g' < m g) Q) (S g) (H g)) : Awp P w₀ n (.loop c) Q s h := by
  refine Awp.keep L ?_
  rw [hs]
  refine Awp.forget hh ?_
  refine awp_loop (fun s h => ∃ g, s = S g ∧ (∃ h', h = h' ∧ Sub (H g) h') ∧ I g) (fun s h => leastOf fun k => ∃ g, s = S g ∧ Sub (H g) h ∧ I g ∧ m g = k) ⟨g₀, rfl, ⟨_, rfl, Sub.refl _⟩, hi⟩ fun s1 h1 hI => ?_
  obtain ⟨g1, e1, ⟨_, e2, e2'⟩, e3⟩ := hI
  subst e2
  obtain ⟨⟨g, f1, f2, f3, f4⟩, _⟩ := leastOf_spec (p := fun k => ∃ g, s1 = S g ∧ Sub (H g) h1 ∧ I g ∧ m g = k) ⟨_, g1, e1, e2', e3, rfl⟩
  subst f1
  refine Awp.forget f2 ((round g f3).mono fun e s' h' hq => ?_)
  cases e <;> simp only [thenA] at hq ⊢ <;> first
    | exact hq
    | skip
  obtain ⟨g', q1, q2, q3, q4⟩ := hq
  refine ⟨s'.keep L, fun i => keep_get s' L i, ⟨g', q1, ⟨_, rfl, q2⟩, q3⟩, ?_⟩
  have := (leastOf_spec (p := fun k => ∃ g, s'.keep L = S g ∧ Sub (H g) h' ∧ I g ∧ m g = k) ⟨_, g', q1, q2, q3, rfl⟩).2 _ ⟨g', q1, q2, q3, rfl⟩
  omega

theorem awp_joinG {γ : Type} {x y : Code} (L : List Nat) (S : γ → Slots) (H : γ → AHeap) (I : γ → Prop)
    (hx : Awp P w₀ n x (thenA (fun s' h' => ∃ g, s'.keep L = S g ∧ Sub (H g) h' ∧ I g) Q) s h) (hy : ∀ g, I g → Awp P w₀ n y Q (S g) (H g)) : Awp P w₀ n (.seq x y) Q s h :=
  awp_seq (hx.mono fun e s' h' hq => by
    cases e <;> simp only [thenA] at hq ⊢ <;> first
      | exact hq
      | skip
    obtain ⟨g, q1, q2, q3⟩ := hq
    refine Awp.keep L ?_
    rw [q1]
    exact Awp.forget q2 (hy g q3))

theorem retA_ret {rs : List ResultVar} {R : AVal → AHeap → Prop} (h' : AHeap) (hs : Sub h' h) (hp : resPre P w₀ s h rs) (hr : R (resOf P w₀ s h rs) h') : retA P w₀ rs R .ret s h := ⟨hp, h', hs, hr⟩
theorem retA_end {rs : List ResultVar} {R : AVal → AHeap → Prop} (h' : AHeap) (hs : Sub h' h) (hp : resPre P w₀ s h rs) (hr : R (resOf P w₀ s h rs) h') : retA P w₀ rs R .normal s h := ⟨hp, h', hs, hr⟩
theorem resPre_tmp {t : Nat} {rs : List ResultVar} (hp : resPre P w₀ s h rs) : resPre P w₀ s h (.tmp t :: rs) := ⟨trivial, hp⟩
theorem resPre_nil : resPre P w₀ s h [] := trivial
theorem resOf_one (t : Nat) : resOf P w₀ s h [.tmp t] = s.get t := rfl
theorem resOf_two (t u : Nat) : resOf P w₀ s h [.tmp t, .tmp u] = .tuple [s.get t, s.get u] := rfl
theorem resOf_three (t u v : Nat) : resOf P w₀ s h [.tmp t, .tmp u, .tmp v] = .tuple [s.get t, s.get u, s.get v] := rfl
theorem resOf_nil : resOf P w₀ s h [] = .tuple [] := rfl

/-- A call whose answer is one value and that leaves the heap. -/
theorem aOps_callV {ops rest : List Oper} {K : Slots → AHeap → Prop} {dst : Option Tmp} {fo : Operand} {args : Array Operand} {ts : Array TypeId} {ty : TypeId} {pos : String} {af : Array Edge} {f : FuncId} {cap xs : List AVal} {V : AVal}
    (hf : ev s fo = .func f cap) (hx : evs s args.toList ++ cap = xs) (hc : ACall P w₀ f xs h (fun x h' => x = V ∧ h' = h)) (hk : aOps P w₀ ops rest (putD s dst V) h K) :
    aOps P w₀ ops (⟨dst, .call ⟨.value fo, args, ts⟩, ty, pos, af, none⟩ :: rest) s h K :=
  aOps_call hf hx hc fun x h' ⟨e1, e2⟩ => by subst e1 e2; exact hk
end


theorem es_to {P : Program} {t u : TypeId} {d : TypeDesc} (hu : P.underlying u = some d) (hd : ∀ e, d ≠ .slice e) : (!eStrBytes P t u && !eSame P t u) = true := by
  have e1 : eStrBytes P t u = false := by
    unfold eStrBytes
    split
    · rename_i e _ h; rw [hu] at h; exact absurd (Option.some.inj h) (hd e)
    · rfl
  have e2 : eSame P t u = false := by
    unfold eSame
    by_cases htu : t = u
    · subst htu
      split
      · rename_i e h; rw [hu] at h; exact absurd (Option.some.inj h) (hd e)
      · simp
    · simp [htu]
  rw [e1, e2]; rfl
theorem es_int {P : Program} {t u : TypeId} {d : TypeDesc} {k : IntKind} (_ : P.underlying t = some d) (hu : P.underlying u = some (.int k)) : (!eStrBytes P t u && !eSame P t u) = true := es_to hu (fun _ => by simp)
theorem es_str {P : Program} {t u : TypeId} {d : TypeDesc} (_ : P.underlying t = some d) (hu : P.underlying u = some .string) : (!eStrBytes P t u && !eSame P t u) = true := es_to hu (fun _ => by simp)

section
variable {P : Program} {w₀ : World} {ops rest : List Oper} {s : Slots} {h : AHeap} {K : Slots → AHeap → Prop} {dst : Option Tmp} {ty : TypeId} {pos : String} {af : Array Edge}
theorem ap_convert (t u : TypeId) (x : Operand) (hs : (!eStrBytes P t u && !eSame P t u) = true) :
    aOps P w₀ ops (⟨dst, .convert t u x, ty, pos, af, none⟩ :: rest) s h K = ((pop P w₀ h s (.convert t u x)).pre ∧ aOps P w₀ ops rest (putD s dst (pop P w₀ h s (.convert t u x)).val) h K) := aOps_p (pu_convert t u x hs)
theorem ag_convert (t u : TypeId) (x : Operand) (hs : (!eStrBytes P t u && !eSame P t u) = true) {j : Nat} {want : Bool} :
    aOps P w₀ ops (⟨dst, .convert t u x, ty, pos, af, some (j, want)⟩ :: rest) s h K = agQ P w₀ ops rest s h K dst want (pop P w₀ h s (.convert t u x)) (nthDst ops j) := agE (pu_convert t u x hs)
end


section
variable {K : Slots → AHeap → Prop} {Q : Exit → Slots → AHeap → Prop} {s : Slots} {h : AHeap}
theorem thenA_ret : thenA K Q .ret s h = Q .ret s h := rfl
theorem thenA_normal : thenA K Q .normal s h = K s h := rfl
theorem inBlockA_normal (i : Nat) : inBlockA i Q .normal s h = Q .normal s h := rfl
theorem inBlockA_ret (i : Nat) : inBlockA i Q .ret s h = Q .ret s h := rfl
end

end Go.AM
