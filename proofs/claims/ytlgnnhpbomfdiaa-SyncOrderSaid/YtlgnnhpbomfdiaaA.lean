/- What functions of package sync, of its references and of its laws do: contracts of calls, proved by walking their code. -/
import Derived.Test.YtlgnnhpbomfdiaaRows
import Derived.Test.YtlgnnhpbomfdiaaWx22
import Derived.KernelRfl
set_option maxRecDepth 100000
set_option linter.unusedVariables false
set_option linter.unusedSimpArgs false
namespace Go.Proofs.Ytlgnnhpbomfdiaa
open Go Go.RowKit Wx

/-! ### what calls do: mutexes, conditions, channels as plain lists -/
structure Ch where
  room : Int
  all : List Int
  taken : Nat
structure Sy where
  owners : List Int
  conds : List (List Int)
  chans : List Ch
def Ch.items (c : Ch) : List Int := c.all.drop c.taken
abbrev inR (k : Int) (n : Nat) : Prop := 0 ≤ k ∧ k < n
abbrev thr (t : Int) : Prop := 0 ≤ t ∧ t ≤ 7
abbrev val (v : Int) : Prop := -2147483648 ≤ v ∧ v ≤ 2147483647
def lockS (s : Sy) (m t : Int) : Sy × Bool × Int :=
  if inR m s.owners.length then if thr t then if s.owners.getD m.toNat 0 = -1 then ({ s with owners := s.owners.set m.toNat t }, true, 0) else (s, false, 0) else (s, false, 2) else (s, false, 4)
def unlockS (s : Sy) (m t : Int) : Sy × Int :=
  if inR m s.owners.length then if thr t then if s.owners.getD m.toNat 0 = t then ({ s with owners := s.owners.set m.toNat (-1) }, 0) else (s, 140) else (s, 2) else (s, 4)
def waitS (s : Sy) (k t : Int) : Sy × Int :=
  if inR k s.conds.length then if thr t then if ∃ l ∈ s.conds, t ∈ l then (s, 141) else ({ s with conds := s.conds.set k.toNat (s.conds.getD k.toNat [] ++ [t]) }, 0) else (s, 2) else (s, 4)
/-- -1: nobody. -/
def signalS (s : Sy) (k : Int) : Sy × Int × Int :=
  if inR k s.conds.length then if s.conds.getD k.toNat [] = [] then (s, -1, 0) else ({ s with conds := s.conds.set k.toNat ((s.conds.getD k.toNat []).drop 1) }, (s.conds.getD k.toNat []).headD 0, 0) else (s, -1, 4)
def allS (s : Sy) (k : Int) : Sy × List Int × Int :=
  if inR k s.conds.length then ({ s with conds := s.conds.set k.toNat [] }, s.conds.getD k.toNat [], 0) else (s, [], 4)
def ch0 : Ch := ⟨1, [], 0⟩
def sendS (s : Sy) (q v : Int) : Sy × Int × Int :=
  if inR q s.chans.length then if val v then if ((s.chans.getD q.toNat ch0).items.length : Int) < (s.chans.getD q.toNat ch0).room then
    ({ s with chans := s.chans.set q.toNat { s.chans.getD q.toNat ch0 with all := (s.chans.getD q.toNat ch0).all ++ [v] } }, (s.chans.getD q.toNat ch0).all.length, 0) else (s, -1, 0) else (s, -1, 2) else (s, -1, 4)
/-- The value, its number (-1: none). -/
def recvS (s : Sy) (q : Int) : Sy × Int × Int × Int :=
  if inR q s.chans.length then if (s.chans.getD q.toNat ch0).items = [] then (s, 0, -1, 0) else
    ({ s with chans := s.chans.set q.toNat { s.chans.getD q.toNat ch0 with taken := (s.chans.getD q.toNat ch0).taken + 1 } }, (s.chans.getD q.toNat ch0).all.getD (s.chans.getD q.toNat ch0).taken 0, (s.chans.getD q.toNat ch0).taken, 0) else (s, 0, -1, 4)
def Ch.ok (n : Nat) (c : Ch) : Prop := (1 ≤ c.room ∧ c.room ≤ 16) ∧ c.taken ≤ c.all.length ∧ c.all.length ≤ n ∧ (c.items.length : Int) ≤ c.room ∧ ∀ v ∈ c.all, val v
structure Sy.ok (n : Nat) (s : Sy) : Prop where
  no : s.owners.length ≤ 64
  nc : s.conds.length ≤ 64
  nh : s.chans.length ≤ 64
  o : ∀ o ∈ s.owners, -1 ≤ o ∧ o ≤ 7
  c : ∀ l ∈ s.conds, l.length ≤ n ∧ ∀ t ∈ l, thr t
  h : ∀ x ∈ s.chans, x.ok n
theorem Sy.ok.mono {n m : Nat} {s : Sy} (h : s.ok n) (l : n ≤ m) : s.ok m :=
  ⟨h.no, h.nc, h.nh, h.o, fun x hx => ⟨Nat.le_trans (h.c x hx).1 l, (h.c x hx).2⟩, fun x hx => let ⟨a, b, c, d, e⟩ := h.h x hx; ⟨a, b, Nat.le_trans c l, d, e⟩⟩
theorem getD_mem {α : Type} {l : List α} {i : Nat} {d : α} (h : i < l.length) : l.getD i d ∈ l := by
  have : l.getD i d = l[i] := by simp [List.getD, h]
  rw [this]; exact List.getElem_mem _
theorem inR_lt {k : Int} {n : Nat} (h : inR k n) : k.toNat < n := by obtain ⟨a, b⟩ := h; omega
theorem lockS_ok {n : Nat} {s : Sy} (h : s.ok n) (m t : Int) : (lockS s m t).1.ok n := by
  unfold lockS
  split
  · split
    · split
      · rename_i _ ht _
        exact ⟨by simpa using h.no, h.nc, h.nh, fun o ho => by rcases List.mem_or_eq_of_mem_set ho with ho | rfl; exact h.o o ho; obtain ⟨a, b⟩ := ht; omega, h.c, h.h⟩
      · exact h
    · exact h
  · exact h
theorem unlockS_ok {n : Nat} {s : Sy} (h : s.ok n) (m t : Int) : (unlockS s m t).1.ok n := by
  unfold unlockS
  split
  · split
    · split
      · exact ⟨by simpa using h.no, h.nc, h.nh, fun o ho => by rcases List.mem_or_eq_of_mem_set ho with ho | rfl; exact h.o o ho; omega, h.c, h.h⟩
      · exact h
    · exact h
  · exact h
theorem waitS_ok {n : Nat} {s : Sy} (h : s.ok n) (k t : Int) : (waitS s k t).1.ok (n + 1) := by
  unfold waitS
  split
  · rename_i hk
    split
    · rename_i ht
      split
      · exact h.mono (by omega)
      · refine ⟨h.no, by simpa using h.nc, h.nh, h.o, fun l hl => ?_, (h.mono (Nat.le_succ n)).h⟩
        rcases List.mem_or_eq_of_mem_set hl with hl | rfl
        · exact (h.mono (Nat.le_succ n)).c l hl
        · obtain ⟨h1, h2⟩ := h.c _ (getD_mem (d := []) (inR_lt hk))
          refine ⟨by rw [List.length_append]; simp only [List.length_cons, List.length_nil]; omega, fun x hx => ?_⟩
          rcases List.mem_append.1 hx with hx | hx
          · exact h2 x hx
          · rw [List.mem_singleton.1 hx]; exact ht
    · exact h.mono (by omega)
  · exact h.mono (by omega)
theorem signalS_ok {n : Nat} {s : Sy} (h : s.ok n) (k : Int) : (signalS s k).1.ok n := by
  unfold signalS
  split
  · rename_i hk
    split
    · exact h
    · refine ⟨h.no, by simpa using h.nc, h.nh, h.o, fun l hl => ?_, h.h⟩
      rcases List.mem_or_eq_of_mem_set hl with hl | rfl
      · exact h.c l hl
      · obtain ⟨h1, h2⟩ := h.c _ (getD_mem (d := []) (inR_lt hk))
        exact ⟨by rw [List.length_drop]; omega, fun x hx => h2 x (List.mem_of_mem_drop hx)⟩
  · exact h
theorem allS_ok {n : Nat} {s : Sy} (h : s.ok n) (k : Int) : (allS s k).1.ok n := by
  unfold allS
  split
  · refine ⟨h.no, by simpa using h.nc, h.nh, h.o, fun l hl => ?_, h.h⟩
    rcases List.mem_or_eq_of_mem_set hl with hl | rfl
    · exact h.c l hl
    · simp
  · exact h
theorem sendS_ok {n : Nat} {s : Sy} (h : s.ok n) (q v : Int) : (sendS s q v).1.ok (n + 1) := by
  unfold sendS
  split
  · rename_i hk
    split
    · rename_i hv
      split
      · rename_i hr
        refine ⟨h.no, h.nc, by simpa using h.nh, h.o, (h.mono (Nat.le_succ n)).c, fun x hx => ?_⟩
        rcases List.mem_or_eq_of_mem_set hx with hx | rfl
        · exact (h.mono (Nat.le_succ n)).h x hx
        · obtain ⟨h1, h2, h3, h4, h5⟩ := h.h _ (getD_mem (d := ch0) (inR_lt hk))
          unfold Ch.items at hr
          rw [List.length_drop] at hr
          refine ⟨h1, by dsimp only; rw [List.length_append]; omega, by dsimp only; rw [List.length_append, List.length_singleton]; omega, ?_, fun x hx => ?_⟩
          · unfold Ch.items; dsimp only; rw [List.length_drop, List.length_append, List.length_singleton]; omega
          · rcases List.mem_append.1 hx with hx | hx
            · exact h5 x hx
            · rw [List.mem_singleton.1 hx]; exact hv
      · exact h.mono (by omega)
    · exact h.mono (by omega)
  · exact h.mono (by omega)
theorem recvS_ok {n : Nat} {s : Sy} (h : s.ok n) (q : Int) : (recvS s q).1.ok n := by
  unfold recvS
  split
  · rename_i hk
    split
    · exact h
    · rename_i hr
      refine ⟨h.no, h.nc, by simpa using h.nh, h.o, h.c, fun x hx => ?_⟩
      rcases List.mem_or_eq_of_mem_set hx with hx | rfl
      · exact h.h x hx
      · obtain ⟨h1, h2, h3, h4, h5⟩ := h.h _ (getD_mem (d := ch0) (inR_lt hk))
        have hl : 0 < (s.chans.getD q.toNat ch0).items.length := List.length_pos_iff.2 hr
        unfold Ch.items at hl h4
        rw [List.length_drop] at hl h4
        refine ⟨h1, by dsimp only; omega, h3, ?_, h5⟩
        unfold Ch.items; dsimp only; rw [List.length_drop]; omega
  · exact h

theorem Try.info3 : (Try.prog.info? 3).map (fun i => (i.zero, i.size, i.bytes)) = some (some (.int .i64 0), 1, 8) := by kernel_rfl
theorem Try.info2 : (Try.prog.info? 2).map (fun i => (i.zero, i.size, i.bytes)) = some (some (.int .i64 0), 1, 8) := by kernel_rfl
theorem Try.info89 : (Try.prog.info? 89).map (fun i => (i.zero, i.size, i.bytes)) = some (some (.agg #[.slice none 0 0]), 1, 24) := by kernel_rfl
theorem Try.info78 : (Try.prog.info? 78).map (fun i => (i.zero, i.size, i.bytes)) = some (some (.agg #[.slice none 0 0, .int .i64 0, .int .i64 0]), 3, 40) := by kernel_rfl
theorem Try.info29 : (Try.prog.info? 29).map (fun i => (i.zero, i.size, i.bytes)) = some (some (.slice none 0 0), 1, 24) := by kernel_rfl
theorem Try.info28 : (Try.prog.info? 28).map (fun i => (i.zero, i.size, i.bytes)) = some (some (.slice none 0 0), 1, 24) := by kernel_rfl
theorem Try.mixed : Try.prog.follows .mixedOrders = true := by kernel_rfl
/-! ### how a Sync stands in memory -/
abbrev I64 : Int → Value := Value.int .i64
/-- The list x, of the type ty, is owned. -/
def lsV (ty : TypeId) (x : SlV Int) : HP := lsH I64 ty x.a x.c x.l
def lsVM (ty : TypeId) (x : SlV Int) : HP := lsM I64 ty x.a x.c x.l
def cqs (x : SlV Int) : List Value := [.slice x.a x.l.length x.c]
structure ChC where
  q : SlV Int
  room : Int
  sent : Int
def chs (x : ChC) : List Value := [.slice x.q.a x.q.l.length x.q.c, .int .i64 x.room, .int .i64 x.sent]
structure SyC where
  ao : Option Addr
  co : Nat
  owners : List Int
  ac : Option Addr
  cc : Nat
  conds : List (SlV Int)
  ah : Option Addr
  ch : Nat
  chans : List ChC
def syL (p : Nat) (s : SyC) : List HP := [pto p (.cells [.bool true, .slice s.ao s.owners.length s.co, .slice s.ac s.conds.length s.cc, .slice s.ah s.chans.length s.ch].toArray 74 (0, 0)),
  lsH I64 3 s.ao s.co s.owners, rsH cqs 1 89 s.ac s.cc s.conds, stars (s.conds.map (lsV 3)), rsH chs 3 78 s.ah s.ch s.chans, stars (s.chans.map fun x => lsV 2 x.q)]
def Ch.row (c : Ch) : List Int × Int × Int := (c.items, c.room, c.all.length)
def ChC.row (x : ChC) : List Int × Int × Int := (x.q.l, x.room, x.sent)
structure Real (σ : SyC) (s : Sy) : Prop where
  o : σ.owners = s.owners
  c : σ.conds.map (·.l) = s.conds
  h : σ.chans.map ChC.row = s.chans.map Ch.row
theorem Real.lc {σ : SyC} {s : Sy} (r : Real σ s) : σ.conds.length = s.conds.length := by rw [← r.c]; simp
theorem Real.lh {σ : SyC} {s : Sy} (r : Real σ s) : σ.chans.length = s.chans.length := by have := congrArg List.length r.h; simpa using this
theorem Real.cl {σ : SyC} {s : Sy} (r : Real σ s) {i : Nat} (h : i < σ.conds.length) : s.conds.getD i [] = σ.conds[i].l := by
  have h2 : i < s.conds.length := by rw [← r.lc]; exact h
  have := congrArg (·[i]?) r.c
  simp only [List.getElem?_map, List.getElem?_eq_getElem h, List.getElem?_eq_getElem h2, Option.map_some] at this
  rw [List.getD, List.getElem?_eq_getElem h2]; exact (Option.some.inj this).symm
theorem Real.hl {σ : SyC} {s : Sy} (r : Real σ s) {i : Nat} (h : i < σ.chans.length) : (s.chans.getD i ch0).row = σ.chans[i].row := by
  have h2 : i < s.chans.length := by rw [← r.lh]; exact h
  have := congrArg (·[i]?) r.h
  simp only [List.getElem?_map, List.getElem?_eq_getElem h, List.getElem?_eq_getElem h2, Option.map_some] at this
  rw [List.getD, List.getElem?_eq_getElem h2]; exact (Option.some.inj this).symm
theorem map_set_eq {α β : Type} (f : α → β) (l : List α) (i : Nat) (x : α) : (l.set i x).map f = (l.map f).set i (f x) := by simp

end Go.Proofs.Ytlgnnhpbomfdiaa

