/-
  Plain program logic, part 26: many quiet steps at once, reckoned by a function (the step is proved once).
-/
import Derived.Test.YtjkkefgkhafmfaaWx25
namespace Wx
open Go Go.RowKit

/-! ### what is known of types, by their numbers -/
inductive TD where
  | ptr | fn | ifc | bool | str | other
  | slc (e : Nat)
  | int (k : IntKind)
  | strct (fs : List (Nat × Nat))
structure TF where
  d : TD
  agg : Bool
  sz : Nat
  bz : Option (List (Nat × Nat) × List Value) := none
inductive Tr where
  | e
  | n (v : Option TF) (l r : Tr)
def Tr.get : Tr → Nat → Option TF
  | .e, _ => none
  | .n v l r, t => bif Nat.beq t 0 then v else bif Nat.beq (t % 2) 1 then l.get (t / 2) else r.get (t / 2 - 1)
def TD.ok (P : Program) (t : TypeId) : TD → Prop
  | .ptr => ∃ e, P.underlying t = some (.pointer e)
  | .fn => ∃ u r b, P.underlying t = some (.func u r b)
  | .ifc => ∃ m, P.underlying t = some (.interface m)
  | .bool => P.underlying t = some .bool
  | .str => P.underlying t = some .string
  | .other => ∃ D, P.underlying t = some D ∧ (match D with | .interface _ => false | _ => true) = true
  | .slc e => P.underlying t = some (.slice e)
  | .int k => P.underlying t = some (.int k)
  | .strct l => ∃ fs, P.underlying t = some (.struct fs) ∧ fs.toList.map (fun F => (F.type, F.offset)) = l
def TF.ok (P : Program) (t : TypeId) (x : TF) : Prop :=
  x.d.ok P t ∧ (∀ w, (isAgg t).run P w = .ok x.agg w) ∧ (∀ w, (Go.sizeOf t).run P w = .ok x.sz w) ∧
  match x.bz with
  | none => True
  | some (pl, z) => (∀ w, (zeroValue t).run P w = .ok (.agg z.toArray) w) ∧ ∃ fs, P.underlying t = some (.struct fs) ∧ fs.toList.mapM (fun f => (P.info? f.type).map fun i => (f.offset, i.size)) = some pl
def Tr.ok (P : Program) : Tr → (Nat → Nat) → Prop
  | .e, _ => True
  | .n v l r, f => (match v with | none => True | some x => x.ok P (f 0)) ∧ l.ok P (fun i => f (2 * i + 1)) ∧ r.ok P (fun i => f (2 * i + 2))
theorem Tr.get_ok {P : Program} : ∀ {T : Tr} {f : Nat → Nat} {t : Nat} {x : TF}, T.ok P f → T.get t = some x → x.ok P (f t)
  | .e, _, _, _, _, h => by simp [Tr.get] at h
  | .n v l r, f, t, x, ⟨h1, h2, h3⟩, h => by
    unfold Tr.get at h
    cases hb : Nat.beq t 0 with
    | true =>
      have := Nat.eq_of_beq_eq_true hb; subst this
      rw [hb] at h; simp only [cond_true] at h; subst h; exact h1
    | false =>
      have h0 := Nat.ne_of_beq_eq_false hb
      rw [hb] at h; simp only [cond_false] at h
      cases hc : Nat.beq (t % 2) 1 with
      | true =>
        have := Nat.eq_of_beq_eq_true hc
        rw [hc] at h; simp only [cond_true] at h
        have := Tr.get_ok h2 h
        have e : 2 * (t / 2) + 1 = t := by omega
        simpa only [e] using this
      | false =>
        have := Nat.ne_of_beq_eq_false hc
        rw [hc] at h; simp only [cond_false] at h
        have := Tr.get_ok h3 h
        have e : 2 * (t / 2 - 1) + 2 = t := by omega
        simpa only [e] using this

/-! ### quiet operations -/
def splF : List Value → Nat → List Value → Option (List Value)
  | l, _, [] => some l
  | [], _, _ => none
  | _ :: l, 0, v :: vs => match splF l 0 vs with
    | some r => some (v :: r)
    | none => none
  | x :: l, n + 1, vs => match splF l n vs with
    | some r => some (x :: r)
    | none => none
theorem splF_ok : ∀ {l : List Value} {n : Nat} {vs r : List Value}, splF l n vs = some r → spl l n vs = r ∧ n + vs.length ≤ l.length ∨ vs = [] ∧ r = l
  | l, n, [], r, h => by right; cases l <;> cases n <;> simp [splF] at h <;> simp [h]
  | [], n, v :: vs, r, h => by cases n <;> simp [splF] at h
  | x :: l, 0, v :: vs, r, h => by
    simp only [splF] at h
    split at h
    · rename_i r' hr
      cases h
      left
      rcases splF_ok hr with ⟨e, e2⟩ | ⟨rfl, rfl⟩
      · exact ⟨by simp [spl, e], by simp; omega⟩
      · exact ⟨by cases r' <;> simp [spl], by simp⟩
    · cases h
  | x :: l, n + 1, v :: vs, r, h => by
    simp only [splF] at h
    split at h
    · rename_i r' hr
      cases h
      left
      rcases splF_ok hr with ⟨e, e2⟩ | ⟨h, _⟩
      · exact ⟨by simp [spl, e], by simp at e2 ⊢; omega⟩
      · cases h
    · cases h
def cellsF : Value → Option (List Value)
  | .agg ⟨l⟩ => some l
  | .tuple _ => none
  | v => some [v]
theorem cellsF_ok {v : Value} {l : List Value} (h : cellsF v = some l) : v.cells.toList = l := by
  unfold cellsF at h
  split at h
  · cases h; rfl
  · cases h
  · rename_i h1 h2
    cases h
    cases v <;> first | rfl | exact absurd rfl (h2 _) | (rename_i a; exact absurd rfl (h1 a.toList))
def bldF (pl : List (Nat × Nat)) (p : PE) : List Value → List (Nat × Operand) → Option (List Value)
  | cs, [] => some cs
  | cs, (i, x) :: r => match nthP pl i, evp p x with
    | some (off, sz), some v => match cellsF v with
      | some vs => match Nat.beq vs.length sz && Nat.ble (off + sz) cs.length with
        | true => match splF cs off vs with
          | some cs' => bldF pl p cs' r
          | none => none
        | false => none
      | none => none
    | _, _ => none
theorem evl_cons {p : PE} {x : Operand} {l : List Operand} {v : Value} {vs : List Value} (h : evp p x = some v) (k : evl p l = some vs) : evl p (x :: l) = some (v :: vs) := by simp [evl, h, k]
theorem bldF_ok {pl : List (Nat × Nat)} {p : PE} : ∀ {ps : List (Nat × Operand)} {cs r : List Value}, bldF pl p cs ps = some r → ∃ us, evl p (ps.map (·.2)) = some us ∧ fillL pl cs ((ps.map (·.1)).zip us) = some r
  | [], cs, r, h => by simp only [bldF] at h; cases h; exact ⟨[], rfl, by cases pl <;> rfl⟩
  | (i, x) :: ps, cs, r, h => by
    simp only [bldF] at h
    split at h
    · rename_i off sz v h1 h2
      split at h
      · rename_i vs h3
        split at h
        · rename_i h4
          split at h
          · rename_i cs' h5
            obtain ⟨us, e1, e2⟩ := bldF_ok h
            refine ⟨v :: us, evl_cons h2 e1, ?_⟩
            have e3 := cellsF_ok h3
            have h4' := h4
            simp only [Bool.and_eq_true] at h4'
            simp only [List.map_cons, List.zip_cons_cons, fillL, h1, e3, h4, cond_true]
            have e4 := Nat.le_of_ble_eq_true h4'.2
            have e5 := Nat.eq_of_beq_eq_true h4'.1
            have e6 : spl cs off vs = cs' := by
              rcases splF_ok h5 with ⟨e, _⟩ | ⟨rfl, rfl⟩
              · exact e
              · cases cs' <;> cases off <;> rfl
            rw [e6]; exact e2
          · cases h
        · cases h
      · cases h
    · cases h
abbrev SR := Option (Value × Option Prop)
def bin (op : BinOp) (T : Tr) (t : TypeId) : Value → Value → SR
  | .int kd m, .int kd' n => match decide (kd = kd') with
   | true => match op with
    | .eql => some (.bool (m == n), none)
    | .neq => some (.bool (m != n), none)
    | .lss => some (.bool (decide (m < n)), none)
    | .leq => some (.bool (decide (m ≤ n)), none)
    | .gtr => some (.bool (decide (n < m)), none)
    | .geq => some (.bool (decide (n ≤ m)), none)
    | .add => match kd with
      | .i64 => some (.int .i64 (m + n), some (-9223372036854775808 ≤ m + n ∧ m + n ≤ 9223372036854775807))
      | k => some (.int k (k.wrap (m + n)), none)
    | .sub => match kd with
      | .i64 => some (.int .i64 (m - n), some (-9223372036854775808 ≤ m - n ∧ m - n ≤ 9223372036854775807))
      | k => some (.int k (k.wrap (m - n)), none)
    | .mul => match kd with
      | .i64 => some (.int .i64 (m * n), some (-9223372036854775808 ≤ m * n ∧ m * n ≤ 9223372036854775807))
      | k => some (.int k (k.wrap (m * n)), none)
    | .rem => some (.int kd (m.tmod n), some (n ≠ 0))
    | .quo => some (.int kd (kd.wrap (m.tdiv n)), some (n ≠ 0))
    | .shr => some (.int kd (m.fdiv (2 ^ min n.toNat kd.bits)), some (0 ≤ n))
    | .shl => some (.int kd (kd.wrap (m * 2 ^ min n.toNat kd.bits)), some (0 ≤ n))
    | .and => some (.int kd (kd.wrap ((BitVec.ofInt kd.bits m &&& BitVec.ofInt kd.bits n).toNat : Int)), none)
    | .or => some (.int kd (kd.wrap ((BitVec.ofInt kd.bits m ||| BitVec.ofInt kd.bits n).toNat : Int)), none)
    | _ => none
   | false => match op with
    | .shr => some (.int kd (m.fdiv (2 ^ min n.toNat kd.bits)), some (0 ≤ n))
    | .shl => some (.int kd (kd.wrap (m * 2 ^ min n.toNat kd.bits)), some (0 ≤ n))
    | _ => none
  | .bool a, .bool b => match op, T.get t with
    | .eql, some ⟨.bool, _, _, _⟩ => some (.bool (a == b), none)
    | .neq, some ⟨.bool, _, _, _⟩ => some (.bool (a != b), none)
    | _, _ => none
  | .string a, .string b => match op with
    | .eql => some (.bool (a.toList == b.toList), none)
    | .neq => some (.bool (!(a.toList == b.toList)), none)
    | _ => none
  | _, _ => none
def nilc (op : BinOp) (T : Tr) (t : TypeId) : Value → Value → SR
  | .pointer A, .pointer none => match op, T.get t with
    | .eql, some ⟨.ptr, _, _, _⟩ => some (.bool A.isNone, none)
    | .neq, some ⟨.ptr, _, _, _⟩ => some (.bool A.isSome, none)
    | _, _ => none
  | .slice A _ _, .slice none 0 0 => match op, T.get t with
    | .eql, some ⟨.slc _, _, _, _⟩ => some (.bool A.isNone, none)
    | .neq, some ⟨.slc _, _, _, _⟩ => some (.bool A.isSome, none)
    | _, _ => none
  | _, _ => none
def sxO (T : Tr) (p : PE) : Op → SR
  | .move x => match evp p x with
    | some v => some (v, none)
    | none => none
  | .assign x => match evp p x with
    | some v => some (v, none)
    | none => none
  | .pick c a b => match evp p c with
    | some (.bool true) => match evp p a with
      | some v => some (v, none)
      | none => none
    | some (.bool false) => match evp p b with
      | some v => some (v, none)
      | none => none
    | _ => none
  | .extract x n => match evp p x with
    | some (.tuple ⟨vs⟩) => match nth vs n with
      | some v => some (v, none)
      | none => none
    | _ => none
  | .makeFunc fn ⟨l⟩ ⟨m⟩ => match evl p l, evl p m with
    | some fs, some ms => some (.func fn fs.toArray ms.toArray, none)
    | _, _ => none
  | .makeInterface t x => match evp p x, T.get t with
    | some v, some ⟨d, _, _, _⟩ => match d with
      | .ifc => none
      | _ => some (.iface t v, none)
    | _, _ => none
  | .nilCheck x => match evp p x with
    | some (.pointer (some A)) => some (.pointer (some A), none)
    | some (.func (.func f) l m) => some (.func (.func f) l m, none)
    | _ => none
  | .unOp .not _ x => match evp p x with
    | some (.bool true) => some (.bool false, none)
    | some (.bool false) => some (.bool true, none)
    | _ => none
  | .unOp .neg _ x => match evp p x with
    | some (.int kd n) => some (.int kd (kd.wrap (0 - n)), none)
    | _ => none
  | .convert s t x => match evp p x, T.get s, T.get t with
    | some (.int _ n), some ⟨.int _, _, _, _⟩, some ⟨.int kd, _, _, _⟩ => match kd with
      | .i64 => some (.int .i64 n, some (-9223372036854775808 ≤ n ∧ n ≤ 9223372036854775807))
      | k => some (.int k (k.wrap n), none)
    | _, _, _ => none
  | .fieldAddr t x n => match evp p x, T.get t with
    | some (.pointer (some ⟨b, o, none⟩)), some ⟨.strct l, _, _, _⟩ => match nthP l n with
      | some (ft, off) => match T.get ft with
        | some ⟨_, _, _ + 1, _⟩ => some (.pointer (some ⟨b, o + off, none⟩), none)
        | _ => none
      | none => none
    | _, _ => none
  | .field t x n => match evp p x, T.get t with
    | some (.agg ⟨vs⟩), some ⟨.strct l, _, _, _⟩ => match nthP l n with
      | some (ft, off) => match T.get ft with
        | some ⟨_, false, _, _⟩ => match nth vs off with
          | some v => some (v, none)
          | none => none
        | some ⟨_, true, sz, _⟩ => some (.agg (Wx.sub vs off sz).toArray, none)
        | none => none
      | none => none
    | _, _ => none
  | .indexAddr t x i => match evp p x, evp p i, T.get t with
    | some (.slice (some ⟨b, o, none⟩) n _), some (.int _ j), some ⟨.slc e, _, _, _⟩ => match T.get e with
      | some ⟨_, _, sz, _⟩ => some (.pointer (some ⟨b, o + j.toNat * sz, none⟩), some (0 ≤ j ∧ j < n))
      | none => none
    | _, _, _ => none
  | .slice t x none (some h) none => match evp p x, evp p h, T.get t with
    | some (.slice a _ c), some (.int _ j), some ⟨.slc e, _, _, _⟩ => match T.get e with
      | some _ => some (.slice a j.toNat c, some (0 ≤ j ∧ j ≤ c))
      | none => none
    | _, _, _ => none
  | .slice t x none (some h) (some m) => match evp p x, evp p h, evp p m, T.get t with
    | some (.slice a _ c), some (.int _ j), some (.int _ m), some ⟨.slc e, _, _, _⟩ => match T.get e with
      | some _ => some (.slice a j.toNat m.toNat, some (0 ≤ j ∧ j ≤ m ∧ m ≤ c))
      | none => none
    | _, _, _, _ => none
  | .slice t x (some h) none none => match evp p x, evp p h, T.get t with
    | some (.slice a n c), some (.int _ j), some ⟨.slc e, _, _, _⟩ => match T.get e with
      | some ⟨_, _, sz, _⟩ => some (.slice (sufA a c j.toNat sz) (n - j.toNat) (c - j.toNat), some (0 ≤ j ∧ j ≤ n))
      | none => none
    | _, _, _ => none
  | .build t ⟨ps⟩ => match T.get t with
    | some ⟨_, _, _, some (pl, z)⟩ => match bldF pl p z ps with
      | some cells => some (.agg cells.toArray, none)
      | none => none
    | _ => none
  | .call ⟨.builtin .len, ⟨[x]⟩, ⟨t :: _⟩⟩ => match evp p x, T.get t with
    | some (.slice _ n _), some ⟨.slc _, _, _, _⟩ => some (.int .i64 n, none)
    | some (.string s), some ⟨.str, _, _, _⟩ => some (.int .i64 s.size, none)
    | _, _ => none
  | .call ⟨.builtin .cap, ⟨[x]⟩, ⟨t :: _⟩⟩ => match evp p x, T.get t with
    | some (.slice _ _ c), some ⟨.slc _, _, _, _⟩ => some (.int .i64 c, none)
    | _, _ => none
  | .call ⟨.builtin .max, ⟨[x, y]⟩, _⟩ => match evp p x, evp p y with
    | some (.int kd m), some (.int _ n) => some (.int kd (max m n), none)
    | _, _ => none
  | .call ⟨.builtin .min, ⟨[x, y]⟩, _⟩ => match evp p x, evp p y with
    | some (.int kd m), some (.int _ n) => some (.int kd (min m n), none)
    | _, _ => none
  | .binOp op t x y _ => match y with
    | .const (.pointer none) => match evp p x with
      | some v => nilc op T t v (.pointer none)
      | none => none
    | .const (.slice none 0 0) => match evp p x with
      | some v => nilc op T t v (.slice none 0 0)
      | none => none
    | y => match evp p x, evp p y with
      | some v, some u => bin op T t v u
      | _, _ => none
  | _ => none

section sound
variable {P : Program} {T : Tr} {p : PE} {v : Value} {c : Option Prop} {d : Option Tmp} {ty : TypeId} {pos : String} {af : Array Edge} {gd : Option (Nat × Bool)}
theorem kd_of {a b : IntKind} (h : decide (a = b) = true) : b = a := (of_decide_eq_true h).symm
theorem bin_ok {op : BinOp} {t t' : TypeId} {x y : Operand} {a b : Value} (hT : T.ok P id) (hx : evp p x = some a) (hy : evp p y = some b) (h : bin op T t a b = some (v, c)) (hc : ∀ φ, c = some φ → φ) :
    Pu P p ⟨d, .binOp op t x y t', ty, pos, af, gd⟩ v := by
  unfold bin at h
  split at h
  · split at h
    · rename_i hd
      have := kd_of hd; subst this
      split at h <;> try (split at h)
      all_goals first
        | cases h
        | skip
      all_goals first
        | exact Pu.eql hx hy
        | exact Pu.neq hx hy
        | exact Pu.lss hx hy
        | exact Pu.leq hx hy
        | exact Pu.gtr hx hy
        | exact Pu.geq hx hy
        | exact Pu.add hx hy (hc _ rfl).1 (hc _ rfl).2
        | exact Pu.addW hx hy
        | exact Pu.sub hx hy (hc _ rfl).1 (hc _ rfl).2
        | exact Pu.subW hx hy
        | exact Pu.mul hx hy (hc _ rfl).1 (hc _ rfl).2
        | exact Pu.mulW hx hy
        | exact Pu.rem hx hy (hc _ rfl)
        | exact Pu.quoW hx hy (hc _ rfl)
        | exact Pu.shr hx hy (hc _ rfl)
        | exact Pu.shl hx hy (hc _ rfl)
        | exact Pu.and hx hy
        | exact Pu.or hx hy
    · split at h <;> cases h
      · exact Pu.shr hx hy (hc _ rfl)
      · exact Pu.shl hx hy (hc _ rfl)
  · split at h <;> first | (cases h; done) | skip
    · rename_i hg
      cases h; exact Pu.eqlB hx hy (Tr.get_ok hT hg).1
    · rename_i hg
      cases h; exact Pu.neqB hx hy (Tr.get_ok hT hg).1
  · split at h <;> cases h
    · exact Pu.eqlS hx hy
    · exact Pu.neqS hx hy
  · cases h
theorem nilc_ok {op : BinOp} {t t' : TypeId} {x : Operand} {a b : Value} (hT : T.ok P id) (hx : evp p x = some a) (h : nilc op T t a b = some (v, c)) :
    Pu P p ⟨d, .binOp op t x (.const b) t', ty, pos, af, gd⟩ v := by
  unfold nilc at h
  split at h
  · split at h
    · rename_i hg
      obtain ⟨⟨e, he⟩, _⟩ := Tr.get_ok hT hg
      cases h; exact Pu.eqlNil hx he
    · rename_i hg
      obtain ⟨⟨e, he⟩, _⟩ := Tr.get_ok hT hg
      cases h; exact Pu.neqNil hx he
    · cases h
  · split at h
    · rename_i hg
      have he := (Tr.get_ok hT hg).1
      cases h; exact Pu.eqlSNil hx he
    · rename_i hg
      have he := (Tr.get_ok hT hg).1
      cases h; exact Pu.neqSNil hx he
    · cases h
  · cases h
theorem TD.some {t : TypeId} {D : TD} (h : D.ok P t) : ∃ E, P.underlying t = some E ∧ ((∀ _ : D = .ifc, False) → (match E with | .interface _ => false | _ => true) = true) := by
  cases D with
  | ptr => obtain ⟨e, he⟩ := h; exact ⟨_, he, fun _ => rfl⟩
  | fn => obtain ⟨u, r, b, he⟩ := h; exact ⟨_, he, fun _ => rfl⟩
  | ifc => obtain ⟨u, he⟩ := h; exact ⟨_, he, fun k => (k rfl).elim⟩
  | bool => exact ⟨_, h, fun _ => rfl⟩
  | str => exact ⟨_, h, fun _ => rfl⟩
  | other => obtain ⟨E, he, hk⟩ := h; exact ⟨E, he, fun _ => hk⟩
  | slc e => exact ⟨_, h, fun _ => rfl⟩
  | int k => exact ⟨_, h, fun _ => rfl⟩
  | strct l => obtain ⟨u, he, _⟩ := h; exact ⟨_, he, fun _ => rfl⟩
theorem fld {l : List (Nat × Nat)} {n : Nat} {ft off : Nat} {fs : Array Field} (h : fs.toList.map (fun F => (F.type, F.offset)) = l) (k : nthP l n = some (ft, off)) : (fs[n]?).map (fun F => (F.type, F.offset)) = some (ft, off) := by
  rw [nthP_eq, ← h] at k
  simpa using k
theorem sxO_ok {op : Op} (hT : T.ok P id) (h : sxO T p op = some (v, c)) (hc : ∀ φ, c = some φ → φ) : Pu P p ⟨d, op, ty, pos, af, gd⟩ v := by
  unfold sxO at h
  split at h
  · split at h <;> cases h; exact Pu.move ‹_›
  · split at h <;> cases h; exact Pu.assign ‹_›
  · split at h
    · split at h <;> cases h; exact Pu.pickT ‹_› ‹_›
    · split at h <;> cases h; exact Pu.pickF ‹_› ‹_›
    · cases h
  · split at h
    · split at h <;> cases h; exact Pu.extract ‹_› ‹_›
    · cases h
  · split at h <;> cases h; exact Pu.makeFunc ‹_› ‹_›
  · split at h
    · rename_i hx hg
      obtain ⟨E, he, hk⟩ := TD.some (Tr.get_ok hT hg).1
      split at h
      · cases h
      · rename_i hn
        cases h; refine Pu.makeInterface hx he ?_; have hk' := hk fun e => hn e; clear hk; revert hk'; cases E <;> exact fun e => e
    · cases h
  · split at h <;> cases h
    · exact Pu.nilCheck ‹_›
    · exact Pu.nilCheckF ‹_›
  · split at h <;> cases h
    · exact Pu.not (z := true) ‹_›
    · exact Pu.not (z := false) ‹_›
  · split at h <;> cases h; exact Pu.negW ‹_›
  · split at h
    · rename_i hx hs ht
      have h1 := (Tr.get_ok hT hs).1
      have h2 := (Tr.get_ok hT ht).1
      split at h <;> cases h
      · exact Pu.conv hx h1 h2 (wrap64_of (hc _ rfl).1 (hc _ rfl).2)
      · exact Pu.convW hx h1 h2
    · cases h
  · split at h
    · rename_i hx ht
      obtain ⟨⟨fs, h1, h2⟩, _⟩ := Tr.get_ok hT ht
      split at h
      · rename_i hn
        split at h <;> cases h
        rename_i hf
        exact Pu.fieldAddr _ _ _ hx h1 (fld h2 hn) (Tr.get_ok hT hf).2.2.1
      · cases h
    · cases h
  · split at h
    · rename_i hx ht
      obtain ⟨⟨fs, h1, h2⟩, _⟩ := Tr.get_ok hT ht
      split at h
      · rename_i hn
        split at h
        · rename_i hf
          split at h <;> cases h
          exact Pu.field _ _ hx h1 (fld h2 hn) (Tr.get_ok hT hf).2.1 ‹_›
        · rename_i hf
          cases h
          exact Pu.fieldA _ _ hx h1 (fld h2 hn) (Tr.get_ok hT hf).2.1 (Tr.get_ok hT hf).2.2.1
        · cases h
      · cases h
    · cases h
  · split at h
    · rename_i hx hy ht
      split at h <;> cases h
      rename_i he
      exact Pu.indexAddr hx hy (Tr.get_ok hT ht).1 (Tr.get_ok hT he).2.2.1 (hc _ rfl).1 (hc _ rfl).2
    · cases h
  · split at h
    · rename_i hx hy ht
      split at h <;> cases h
      rename_i he
      exact Pu.sliceHi hx hy (Tr.get_ok hT ht).1 (Tr.get_ok hT he).2.2.1 (hc _ rfl).1 (hc _ rfl).2
    · cases h
  · split at h
    · rename_i hx hy hm ht
      split at h <;> cases h
      rename_i he
      exact Pu.sliceHM hx hy hm (Tr.get_ok hT ht).1 (Tr.get_ok hT he).2.2.1 (hc _ rfl).1 (hc _ rfl).2.1 (hc _ rfl).2.2
    · cases h
  · split at h
    · rename_i hx hy ht
      split at h <;> cases h
      rename_i he
      exact Pu.sliceLo hx hy (Tr.get_ok hT ht).1 (Tr.get_ok hT he).2.2.1 (hc _ rfl).1 (hc _ rfl).2
    · cases h
  · split at h
    · rename_i ht
      obtain ⟨_, _, _, h1, fs, h2, h3⟩ := Tr.get_ok hT ht
      split at h <;> cases h
      rename_i hb
      obtain ⟨us, e1, e2⟩ := bldF_ok hb
      exact Pu.build _ h1 h2 h3 e1 e2
    · cases h
  · split at h
    · rename_i hx ht
      cases h; exact Pu.len hx (Tr.get_ok hT ht).1
    · rename_i hx ht
      cases h; exact Pu.lenS hx (Tr.get_ok hT ht).1
    · cases h
  · split at h
    · rename_i hx ht
      cases h; exact Pu.cap hx (Tr.get_ok hT ht).1
    · cases h
  · split at h <;> cases h; exact Pu.max2 ‹_› ‹_›
  · split at h <;> cases h; exact Pu.min2 ‹_› ‹_›
  · split at h
    · split at h
      · exact nilc_ok hT ‹_› h
      · cases h
    · split at h
      · exact nilc_ok hT ‹_› h
      · cases h
    · split at h
      · exact bin_ok hT ‹_› ‹_› h hc
      · cases h
  · cases h
end sound

/-! ### many steps -/
inductive Md where
  | code
  | ops (ops l : List Oper)
def Y (P : Program) (G : World) (f : Fc) (Q : Post) (md : Md) (k : List Item) (p : PE) (ds : List Deferred) (cs : List Frame) (q : List HP) : Prop :=
  match md with
  | .code => X P G f Q k p ds cs q
  | .ops ops l => XO P G f Q ops.toArray k l p ds cs q
structure Sta where
  md : Md
  k : List Item
  p : PE
  c : List Prop
def AllP : List Prop → Prop
  | [] => True
  | φ :: r => φ ∧ AllP r
/-- What an operation comes to: passed over, or its answer. -/
def opS (T : Tr) (ops : List Oper) (p : PE) (o : Oper) : SR :=
  match Wt ops p o with
  | some true => sxO T p o.op
  | some false => some (undef, none)
  | none => none
/-- An operation's slot. -/
def putO (n : Nat) (p : PE) (v : Value) : Option Tmp → Option PE
  | none => some p
  | some d => match Nat.blt d n with
    | true => some ((d, v) :: p)
    | false => none
def isDefer : Op → Bool
  | .defer _ => true
  | _ => false
def st1 (T : Tr) (n : Nat) : Md → List Item → PE → List Prop → Option Sta
  | .ops ops [], k, p, c => some ⟨.code, k, p, c⟩
  | .ops ops (o :: l), k, p, c => match opS T ops p o with
    | some (v, φ) => match putO n p v o.dst, isDefer o.op with
      | some p', false => match φ with
        | none => some ⟨.ops ops l, k, p', c⟩
        | some φ => some ⟨.ops ops l, k, p', φ :: c⟩
      | _, _ => none
    | none => none
  | .code, .code (.seq a b) :: k, p, c => some ⟨.code, .code a :: .code b :: k, p, c⟩
  | .code, .code .skip :: k, p, c => some ⟨.code, k, p, c⟩
  | .code, .code (.label _) :: k, p, c => some ⟨.code, k, p, c⟩
  | .code, .inBlock _ :: k, p, c => some ⟨.code, k, p, c⟩
  | .code, .inScope _ :: k, p, c => some ⟨.code, k, p, c⟩
  | .code, .code (.block i b) :: k, p, c => some ⟨.code, .code b :: .inBlock i :: k, p, c⟩
  | .code, .code (.scope b) :: k, p, c => some ⟨.code, .code b :: .inScope b :: k, p, c⟩
  | .code, .code (.exit i) :: k, p, c => match exitTo i k with
    | some k' => some ⟨.code, k', p, c⟩
    | none => none
  | .code, .code (.region _ ⟨ops⟩ false) :: k, p, c => some ⟨.ops ops ops, k, p, c⟩
  | .code, .code (.cond x a b) :: k, p, c => match evp p x with
    | some (.bool true) => some ⟨.code, .code a :: k, p, c⟩
    | some (.bool false) => some ⟨.code, .code b :: k, p, c⟩
    | _ => none
  | _, _, _, _ => none
def stn (T : Tr) (n : Nat) : Nat → Md → List Item → PE → List Prop → Option Sta
  | 0, md, k, p, c => some ⟨md, k, p, c⟩
  | m + 1, md, k, p, c => match st1 T n md k p c with
    | some ⟨md', k', p', c'⟩ => stn T n m md' k' p' c'
    | none => none
section
variable {P : Program} {G : World} {f : Fc} {Q : Post} {T : Tr} {md : Md} {k : List Item} {p : PE} {c : List Prop} {ds : List Deferred} {cs : List Frame} {q : List HP}
theorem opS_ok {ops : List Oper} {o : Oper} {v : Value} {φ : Option Prop} (hT : T.ok P id) (h : opS T ops p o = some (v, φ)) (hc : ∀ ψ, φ = some ψ → ψ) :
    (Wt ops p o = some true ∧ Pu P p o v) ∨ (Wt ops p o = some false ∧ v = undef) := by
  unfold opS at h
  split at h
  · rename_i hw
    exact .inl ⟨hw, sxO_ok hT h hc⟩
  · rename_i hw
    cases h; exact .inr ⟨hw, rfl⟩
  · cases h
theorem putO_ok {n : Nat} {v : Value} {d : Option Tmp} {p' : PE} (h : putO n p v d = some p') : dOk n d = true ∧ p' = putp p d v := by
  unfold putO at h
  split at h
  · cases h; exact ⟨rfl, rfl⟩
  · split at h
    · rename_i hb; cases h; exact ⟨hb, rfl⟩
    · cases h
theorem st1_ok {s : Sta} (hT : T.ok P id) (h : st1 T f.n md k p c = some s) (hc : AllP s.c) (K : Y P G f Q s.md s.k s.p ds cs q) : Y P G f Q md k p ds cs q ∧ AllP c := by
  unfold st1 at h
  split at h
  · cases h; exact ⟨XO.nil K, hc⟩
  · rename_i ops o l
    split at h
    · rename_i v φ hop
      split at h
      · rename_i p' hp hd
        have hdf : ∀ c, o.op ≠ .defer c := by
          intro c e; rw [e] at hd; simp [isDefer] at hd
        obtain ⟨h1, h2⟩ := putO_ok hp
        subst h2
        have key : ∀ (φ' : Option Prop), φ = φ' → (∀ ψ, φ' = some ψ → ψ) → XO P G f Q ops.toArray k l (putp p o.dst v) ds cs q → XO P G f Q ops.toArray k (o :: l) p ds cs q := by
          rintro _ rfl hψ K
          rcases opS_ok hT hop hψ with ⟨hw, hpu⟩ | ⟨hw, rfl⟩
          · exact .pu_ hpu K hw h1 hdf
          · exact .pass_ hw h1 K
        split at h
        · cases h; exact ⟨key _ rfl (fun _ e => by cases e) K, hc⟩
        · rename_i ψ
          cases h; exact ⟨key _ rfl (fun _ e => by cases e; exact hc.1) K, hc.2⟩
      · cases h
    · cases h
  · cases h; exact ⟨X.seq K, hc⟩
  · cases h; exact ⟨X.skip K, hc⟩
  · cases h; exact ⟨X.label K, hc⟩
  · cases h; exact ⟨X.inBlock K, hc⟩
  · cases h; exact ⟨X.inScope K, hc⟩
  · cases h; exact ⟨X.block K, hc⟩
  · cases h; exact ⟨X.scope K, hc⟩
  · split at h
    · cases h; exact ⟨X.exit ‹_› K, hc⟩
    · cases h
  · cases h; exact ⟨X.region K, hc⟩
  · split at h
    · cases h; exact ⟨X.condT ‹_› K, hc⟩
    · cases h; exact ⟨X.condF ‹_› K, hc⟩
    · cases h
  · cases h
theorem stn_ok (hT : T.ok P id) : ∀ {m : Nat} {md : Md} {k : List Item} {p : PE} {c : List Prop} {s : Sta}, stn T f.n m md k p c = some s → AllP s.c → Y P G f Q s.md s.k s.p ds cs q → Y P G f Q md k p ds cs q ∧ AllP c
  | 0, md, k, p, c, s, h, hc, K => by cases h; exact ⟨K, hc⟩
  | m + 1, md, k, p, c, s, h, hc, K => by
    simp only [stn] at h
    split at h
    · rename_i md' k' p' c' h1
      obtain ⟨K', hc'⟩ := stn_ok hT h hc K
      exact st1_ok hT h1 hc' K'
    · cases h
variable {k' : List Item} {p' : PE} {ops l ops' l' : List Oper}
theorem stXX (hT : T.ok P id) (m : Nat) (h : stn T f.n m .code k p [] = some ⟨.code, k', p', c⟩) (hc : AllP c) (K : X P G f Q k' p' ds cs q) : X P G f Q k p ds cs q := (stn_ok (Q := Q) (q := q) (ds := ds) (cs := cs) hT h hc K).1
theorem stXO (hT : T.ok P id) (m : Nat) (h : stn T f.n m .code k p [] = some ⟨.ops ops' l', k', p', c⟩) (hc : AllP c) (K : XO P G f Q ops'.toArray k' l' p' ds cs q) : X P G f Q k p ds cs q := (stn_ok (Q := Q) (q := q) (ds := ds) (cs := cs) hT h hc K).1
theorem stOX (hT : T.ok P id) (m : Nat) (h : stn T f.n m (.ops ops l) k p [] = some ⟨.code, k', p', c⟩) (hc : AllP c) (K : X P G f Q k' p' ds cs q) : XO P G f Q ops.toArray k l p ds cs q := (stn_ok (Q := Q) (q := q) (ds := ds) (cs := cs) hT h hc K).1
theorem stOO (hT : T.ok P id) (m : Nat) (h : stn T f.n m (.ops ops l) k p [] = some ⟨.ops ops' l', k', p', c⟩) (hc : AllP c) (K : XO P G f Q ops'.toArray k' l' p' ds cs q) : XO P G f Q ops.toArray k l p ds cs q := (stn_ok (Q := Q) (q := q) (ds := ds) (cs := cs) hT h hc K).1
end
/-! of a region that draws its order -/
structure StD where
  n : Nat
  done : List Nat
  p : PE
  c : List Prop
def sdn (T : Tr) (fn : Nat) (ops : List Oper) : List Nat → Nat → List Nat → PE → List Prop → Option StD
  | [], n, done, p, c => some ⟨n, done, p, c⟩
  | i :: r, n, done, p, c => match n, ops[i]?, rdy ops done i with
    | m + 1, some o, true => match opS T ops p o with
      | some (v, φ) => match putO fn p v o.dst with
        | some p' => match φ with
          | none => sdn T fn ops r m (i :: done) p' c
          | some φ => sdn T fn ops r m (i :: done) p' (φ :: c)
        | none => none
      | none => none
    | _, _, _ => none
section
variable {P : Program} {G : World} {f : Fc} {Q : Post} {T : Tr} {ops : List Oper} {k : List Item} {pk : PE} {L : Rds} {ds : List Deferred} {cs : List Frame} {q : List HP}
theorem sdn_ok (hT : T.ok P id) : ∀ {is : List Nat} {n : Nat} {done : List Nat} {p : PE} {c : List Prop} {s : StD}, sdn T f.n ops is n done p c = some s → AllP s.c → XD P G f Q ops k pk L s.n s.done s.p ds cs q → XD P G f Q ops k pk L n done p ds cs q ∧ AllP c
  | [], n, done, p, c, s, h, hc, K => by cases h; exact ⟨K, hc⟩
  | i :: r, n, done, p, c, s, h, hc, K => by
    simp only [sdn] at h
    split at h
    · rename_i m o ho hr
      split at h
      · rename_i v φ hop
        split at h
        · rename_i p' hp
          obtain ⟨h1, h2⟩ := putO_ok hp
          subst h2
          have key : ∀ (φ' : Option Prop), φ = φ' → (∀ ψ, φ' = some ψ → ψ) → XD P G f Q ops k pk L m (i :: done) (putp p o.dst v) ds cs q → XD P G f Q ops k pk L (m + 1) done p ds cs q := by
            rintro _ rfl hψ K
            rcases opS_ok hT hop hψ with ⟨hw, hpu⟩ | ⟨hw, rfl⟩
            · exact .pu_ i ho hpu K hr hw h1
            · exact .pass_ i ho K hr hw h1
          split at h
          · obtain ⟨K', hc'⟩ := sdn_ok hT h hc K
            exact ⟨key _ rfl (fun _ e => by cases e) K', hc'⟩
          · obtain ⟨K', hc'⟩ := sdn_ok hT h hc K
            exact ⟨key _ rfl (fun _ e => by cases e; exact hc'.1) K', hc'.2⟩
        · cases h
      · cases h
    · cases h
variable {n n' : Nat} {done done' : List Nat} {p p' : PE} {c : List Prop}
theorem stDD (hT : T.ok P id) (is : List Nat) (h : sdn T f.n ops is n done p [] = some ⟨n', done', p', c⟩) (hc : AllP c) (K : XD P G f Q ops k pk L n' done' p' ds cs q) : XD P G f Q ops k pk L n done p ds cs q := (sdn_ok (Q := Q) (q := q) (ds := ds) (cs := cs) hT h hc K).1
end

/-! ### slots that are kept -/
def pickP : List Nat → PE → Option PE
  | [], _ => some []
  | d :: r, p => match lkp p d, pickP r p with
    | some v, some p' => some ((d, v) :: p')
    | _, _ => none
theorem pickP_ok : ∀ {l : List Nat} {p p' : PE}, pickP l p = some p' → SubP p' p
  | [], p, p', h => by cases h; trivial
  | d :: r, p, p', h => by
    simp only [pickP] at h
    split at h
    · cases h; exact ⟨‹_›, pickP_ok ‹_›⟩
    · cases h
theorem subA {p p' : PE} (h : SubP p' p := by repeat (first | exact trivial | refine ⟨(by first | rfl | exact congrArg some (congrArg (Value.int _) (by omega)) | (show some _ = some _; simp; done) | (show some _ = some _; simp; omega)), ?_⟩)) : SubP p' p := h
theorem X.sb {P : Program} {G : World} {f : Fc} {Q : Post} {todo : List Item} {p p' : PE} {ds : List Deferred} {cs : List Frame} {q : List HP} (l : List Nat) (x : X P G f Q todo p' ds cs q) (h : pickP l p = some p' := by exact rfl) : X P G f Q todo p ds cs q := x.sub (pickP_ok h)
theorem XO.sb {P : Program} {G : World} {f : Fc} {Q : Post} {ops : List Oper} {k : List Item} {p p' : PE} {ds : List Deferred} {cs : List Frame} {q : List HP} {r : List Oper} (l : List Nat) (x : XO P G f Q ops.toArray k r p' ds cs q) (h : pickP l p = some p' := by exact rfl) : XO P G f Q ops.toArray k r p ds cs q := x.sub (pickP_ok h)
theorem allP_cons {φ : Prop} {r : List Prop} (h : φ) (k : AllP r) : AllP (φ :: r) := ⟨h, k⟩
end Wx
