/-
  Plain program logic, part 23: regions that draw their order, in which new blocks are made at any time.
-/
import Derived.Test.YtjkkefgkhafmfaaWx22
namespace Wx
open Go Go.RowKit
set_option linter.unusedVariables false
/-- An operation that makes a new block: its number, its slot, its answer and its chunk by the block's number. -/
structure FlE where
  i : Nat
  d : Nat
  V : Nat → Value
  A : Nat → HP
abbrev FlS := List (FlE × Nat)
def fIdx (S : FlS) : List Nat := S.map (·.1.i)
def fCh (S : FlS) : List HP := S.map fun e => e.1.A e.2
def fAgr (tm : Array Value) (S : FlS) : Prop := ∀ e ∈ S, tm.getD e.1.d undef = e.1.V e.2
def keyFree (p : PE) (d : Nat) : Bool := p.all fun x => !(x.1 == d)
theorem keyFree_lkp {p : PE} {d : Nat} (h : keyFree p d = true) : lkp p d = none := by
  induction p with
  | nil => rfl
  | cons x r ih =>
    obtain ⟨y, z⟩ := x
    simp only [keyFree, List.all_cons, Bool.and_eq_true] at h
    simp only [lkp]
    have : Nat.beq y d = false := by
      cases hb : Nat.beq y d with
      | false => rfl
      | true => rw [Nat.eq_of_beq_eq_true hb] at h; simp at h
    rw [this]; exact ih h.2
theorem Agr.put_free {tm : Array Value} {p : PE} {d : Nat} {v : Value} (h : keyFree p d = true) (a : Agr tm p) : Agr (putA tm (some d) v) p := by
  intro t u e
  have hne : d ≠ t := by rintro rfl; rw [keyFree_lkp h] at e; cases e
  have := a t u e
  simpa [putA, Array.getElem?_setIfInBounds, hne] using this
theorem HL.le {q q' : List HP} (l : Le q q') : ∀ {L : Rds}, HL q' L → HL q L
  | [], _ => trivial
  | (_, _, _, _) :: _, h => ⟨fun G w s => h.1 G w (s.le l), HL.le l h.2⟩
theorem HL.sub {q : List HP} : ∀ {L L' : Rds}, (∀ e ∈ L', e ∈ L) → HL q L → HL q L' := by
  intro L L' hs h
  have mem : ∀ {L : Rds}, HL q L → ∀ e ∈ L, Cl q ⟨e.2.1, e.2.2.1, none⟩ e.2.2.2 := by
    intro L
    induction L with
    | nil => intro _ e he; cases he
    | cons x r ih => intro h e he; rcases List.mem_cons.1 he with rfl | he; exact h.1; exact ih h.2 e he
  induction L' with
  | nil => trivial
  | cons x r ih => exact ⟨mem h x (hs x (List.mem_cons_self ..)), ih fun e he => hs e (List.mem_cons_of_mem _ he)⟩
theorem rdy_mem {ops : List Oper} {done : List Nat} {j : Nat} (h : rdy ops done j = true) : j ∉ done := by
  intro hm; unfold rdy at h; simp [hm] at h
theorem rdy_more {ops : List Oper} {done E : List Nat} {j : Nat} (h : rdy ops done j = true) (hn : j ∉ E) : rdy ops (E ++ done) j = true := by
  induction E with
  | nil => exact h
  | cons x r ih => exact rdy_later (ih fun hm => hn (List.mem_cons_of_mem _ hm)) (fun e => hn (e ▸ List.mem_cons_self ..))
theorem rdy_sup {ops : List Oper} {done done' : List Nat} {j : Nat} (h : rdy ops done j = true) (hs : ∀ x ∈ done, x ∈ done') (hn : j ∉ done') : rdy ops done' j = true := by
  unfold rdy at *
  simp only [Bool.and_eq_true, Bool.not_eq_true'] at h ⊢
  refine ⟨by simpa using hn, ?_⟩
  cases ho : ops[j]? with
  | none => rw [ho] at h; simp at h
  | some o =>
    rw [ho] at h
    have h2 := h.2
    simp only [rdyO, List.all_eq_true] at h2 ⊢
    intro e he
    have := h2 e he
    simp only [Bool.or_eq_true] at this ⊢
    rcases this with x | x
    · exact .inl x
    · right; simp at x ⊢; exact hs _ x
section
variable {P : Program} {G : World} {f : Fc} {Q : Post} {ops : List Oper} {k : List Item} {pk p : PE} {ds : List Deferred} {cs : List Frame} {q : List HP} {n : Nat} {done : List Nat} {L : Rds} {o : Oper} {v : Value} {fl : List FlE}
def XF (P : Program) (G : World) (f : Fc) (Q : Post) (ops : List Oper) (k : List Item) (pk : PE) (fl : List FlE) (L : Rds) (n : Nat) (done : List Nat) (p : PE) (ds : List Deferred) (cs : List Frame) (q : List HP) : Prop :=
  okR ops = true → pkFree ops pk = true → ∀ (S : FlS) m tm w, (fIdx S).Nodup → (∀ e ∈ S, e.1 ∈ fl) → m + S.length = n → tm.size = f.n → Agr tm p → fAgr tm S → St G w (q ++ fCh S) →
    WA P ops (Ke' P G f Q k ds cs) (Kp' G Q f.n pk ds cs) m L (fIdx S ++ done) tm w
/-- What is asked of each of them. -/
def FlR (P : Program) (G : World) (f : Fc) (ops : List Oper) (done : List Nat) (p : PE) : List FlE → Prop
  | [] => True
  | e :: r => (∃ o, ops[e.i]? = some o ∧ o.dst = some e.d ∧ rdy ops done e.i = true ∧ Wt ops p o = some true ∧ Nat.blt e.d f.n = true ∧ keyFree p e.d = true ∧ ∀ q, Ef P G p q o fun v q' => ∃ g, v = e.V g ∧ q' = e.A g :: q) ∧ FlR P G f ops done p r
theorem FlR.get {e : FlE} : ∀ {fl : List FlE}, FlR P G f ops done p fl → e ∈ fl → ∃ o, ops[e.i]? = some o ∧ o.dst = some e.d ∧ rdy ops done e.i = true ∧ Wt ops p o = some true ∧ Nat.blt e.d f.n = true ∧ keyFree p e.d = true ∧ ∀ q, Ef P G p q o fun v q' => ∃ g, v = e.V g ∧ q' = e.A g :: q
  | x :: r, ⟨h, h2⟩, hm => by
    rcases List.mem_cons.1 hm with rfl | hm
    · exact h
    · exact h2.get hm
theorem Le.midF (A : HP) (q E : List HP) : Le (A :: (q ++ E)) (q ++ (A :: E)) := by
  induction q with
  | nil => exact Le.refl _
  | cons B r ih => exact (Le.swap A B _).trans (ih.cons B)
theorem Le.midB (A : HP) (q E : List HP) : Le (q ++ (A :: E)) (A :: (q ++ E)) := by
  induction q with
  | nil => exact Le.refl _
  | cons B r ih => exact (ih.cons B).trans (Le.swap B A _)
theorem dst_ne (hok : okR ops = true) {i j : Nat} {x y : Oper} (hx : ops[i]? = some x) (hy : ops[j]? = some y) (hne : i ≠ j) {D D' : List Nat} (hi : rdy ops D i = true) (hj : rdy ops D' j = true) (hiD : j ∉ D) (hjD : i ∉ D') {d : Nat} (hd : x.dst = some d) : y.dst ≠ some d := by
  rcases okR_pair hok hx hy hne with h | h | h
  · exact absurd (not_on hx hi h) hiD
  · exact absurd (not_on hy hj h) hjD
  · exact ((apart_spec h).1 d hd).2
/-- One of them is made. -/
theorem XF.float (hok : okR ops = true) (hR : FlR P G f ops done p fl) {S : FlS} {tm : Array Value} {w : World} (h1 : (fIdx S).Nodup) (h2 : ∀ e ∈ S, e.1 ∈ fl) (hn : tm.size = f.n) (ag : Agr tm p) (fa : fAgr tm S) (s : St G w (q ++ fCh S))
    {e : FlE} (he : e ∈ fl) (hx : e.i ∉ fIdx S) {oe : Oper} (ho : ops[e.i]? = some oe) {K : Array Value → World → Prop} {Kp : List PanicEntry → Array Value → World → Prop}
    (hK : ∀ g tm' w', (fIdx ((e, g) :: S)).Nodup → (∀ x ∈ (e, g) :: S, x.1 ∈ fl) → tm'.size = f.n → Agr tm' p → fAgr tm' ((e, g) :: S) → St G w' (q ++ fCh ((e, g) :: S)) → K tm' w') : OW P ops oe tm w K Kp := by
  obtain ⟨o, ho', hd, hr, hw, hlt, hkf, hE⟩ := hR.get he
  rw [ho] at ho'; cases ho'
  unfold OW
  rw [if_pos (wanted_of ag hw)]
  refine ((hE _).ap tm w ag s).mono fun en w' _ hh => ?_
  obtain ⟨q', ⟨v, rfl, g, rfl, rfl⟩, s'⟩ := hh
  have hsz : e.d < tm.size := by rw [hn]; simpa [Nat.blt_eq] using hlt
  refine hK g _ w' ?_ ?_ ?_ ?_ ?_ ?_
  · exact List.nodup_cons.2 ⟨hx, h1⟩
  · intro x hx; rcases List.mem_cons.1 hx with rfl | hx; exact he; exact h2 x hx
  · rw [putA_size]; exact hn
  · rw [hd]; exact ag.put_free hkf
  · intro x hxm
    rw [hd]
    rcases List.mem_cons.1 hxm with rfl | hxm
    · simp [putA, hsz]
    · obtain ⟨o2, ho2, hd2, hr2, _, _, _, _⟩ := hR.get (h2 x hxm)
      have hne : e.i ≠ x.1.i := fun e' => hx (by rw [e']; exact List.mem_map_of_mem hxm)
      have hdd := dst_ne hok ho ho2 hne hr hr2 (rdy_mem hr2) (rdy_mem hr) hd
      rw [hd2] at hdd
      have hdne : e.d ≠ x.1.d := fun e' => hdd (by rw [e'])
      have := fa x hxm
      simpa [putA, Array.getElem?_setIfInBounds, hdne] using this
  · exact s'.le (Le.midF _ _ _)
theorem XD.float (h : XF P G f Q ops k pk fl L n done p ds cs q) : XD P G f Q ops k pk L n done p ds cs q := fun a b tm w hn ag s hs => by
  have := h a b [] n tm w (by simp [fIdx]) (by simp) (by simp) hn ag (by intro e he; cases he) (by simpa [fCh] using s)
  simpa [fIdx] using this
theorem XF.back (h : XD P G f Q ops k pk L n done p ds cs q) (hL : HL q L := by exact hlA) : XF P G f Q ops k pk [] L n done p ds cs q := fun a b S m tm w h1 h2 h3 hn ag fa s => by
  cases S with
  | nil =>
    have e : m = n := by simpa using h3
    subst e
    have s' : St G w q := by simpa [fCh] using s
    exact h a b tm w hn ag s' (hL.sl s')
  | cons x r => exact absurd (h2 x (List.mem_cons_self ..)) (by simp)
def onlyF (ops : List Oper) (fl done : List Nat) (i : Nat) : Bool := (List.range ops.length).all fun j => j == i || fl.contains j || !rdy ops (fl ++ done) j
/-- What may come next is one operation, or one of those that make blocks. -/
theorem XF.step {R : Value → List HP → Prop} (j : Nat) {oj : Oper} (hR : FlR P G f ops done p fl) (ho : ops[j]? = some oj) (hE : ∀ E, Ef P G p (q ++ E) oj fun v q' => ∃ q1, R v q1 ∧ q' = q1 ++ E) (hL : HL q L)
    (K : ∀ v q1, R v q1 → XF P G f Q ops k pk fl (cut oj L) n (j :: done) (putp p oj.dst v) ds cs q1)
    (hon : onlyF ops (fl.map (·.i)) done j = true) (hjf : (fl.map (·.i)).contains j = false) (hr : rdy ops done j = true) (hw : Wt ops p oj = some true) (hd : dOk f.n oj.dst = true) (hlen : Nat.ble fl.length n = true) (hKL : ∀ v q1, R v q1 → HL q1 (cut oj L)) :
    XF P G f Q ops k pk fl L (n + 1) done p ds cs q := by
  intro a b S m
  induction m generalizing S with
  | zero =>
    intro tm w h1 h2 h3 hn ag fa s
    exfalso
    have hle : S.length ≤ fl.length := by
      have h4 : (fIdx S).length ≤ (fl.map (·.i)).length := by
        refine List.Nodup.length_le_of_subset h1 fun x hx => ?_
        obtain ⟨e, he, rfl⟩ := List.mem_map.1 hx
        exact List.mem_map_of_mem (h2 e he)
      simpa [fIdx] using h4
    have : fl.length ≤ n := by simpa using hlen
    omega
  | succ m ih =>
    intro tm w h1 h2 h3 hn ag fa s
    have hjS : j ∉ fIdx S := fun hm => by
      obtain ⟨e, he, e'⟩ := List.mem_map.1 hm
      have : j ∈ fl.map (·.i) := by rw [← e']; exact List.mem_map_of_mem (h2 e he)
      simp [this] at hjf
    have hrj := rdy_more hr hjS
    refine ⟨fun hnone => absurd hrj (by simp [hnone j]), fun x ox hox hrx => ?_⟩
    by_cases hxj : x = j
    · subst hxj
      rw [ho] at hox; cases hox
      unfold OW
      rw [if_pos (wanted_of ag hw)]
      refine ((hE (fCh S)).ap tm w ag s).mono fun en w' _ hh => ?_
      obtain ⟨q', ⟨v, rfl, q1, hv, rfl⟩, s'⟩ := hh
      refine ⟨((hKL v q1 hv).le (Le.app_left q1 (fCh S))).sl s', ?_⟩
      refine WA.congr _ (done := fIdx S ++ (x :: done)) (fun y => by simp only [List.mem_append, List.mem_cons]; exact ⟨fun h => by rcases h with h | h | h <;> simp [h], fun h => by rcases h with h | h | h <;> simp [h]⟩) ?_
      refine K v q1 hv a b S m _ w' h1 h2 (by omega) (by rw [putA_size]; exact hn) (ag.put (hn ▸ hd)) ?_ s'
      intro e he
      obtain ⟨o2, ho2, hd2, hr2, _, _, _, _⟩ := hR.get (h2 e he)
      have hne : e.1.i ≠ x := fun e' => hjS (by rw [← e']; exact List.mem_map_of_mem he)
      have hdd := dst_ne a ho2 ho hne hr2 hr (rdy_mem hr) (rdy_mem hr2) hd2
      have := fa e he
      cases hdo : oj.dst with
      | none => simpa [putA] using this
      | some d =>
        have hdne : d ≠ e.1.d := fun e' => hdd (by rw [hdo, e'])
        simpa [putA, Array.getElem?_setIfInBounds, hdne] using this
    · have hxl : x < ops.length := (List.getElem?_eq_some_iff.1 hox).1
      have hxf : x ∈ fl.map (·.i) := by
        have h4 := List.all_eq_true.1 hon x (by simpa using hxl)
        rcases Decidable.em (x ∈ fl.map (·.i)) with h5 | h5
        · exact h5
        · have h6 : rdy ops (fl.map (·.i) ++ done) x = true := rdy_sup hrx (fun y hy => by
            rcases List.mem_append.1 hy with hy | hy
            · obtain ⟨e, he, rfl⟩ := List.mem_map.1 hy
              exact List.mem_append_left _ (List.mem_map_of_mem (h2 e he))
            · exact List.mem_append_right _ hy) (fun hm => by
            rcases List.mem_append.1 hm with hm | hm
            · exact h5 hm
            · exact rdy_mem hrx (List.mem_append_right _ hm))
          simp [hxj, h6] at h4
          simp at h5
          obtain ⟨y, hy, e⟩ := h4
          exact absurd e (h5 y hy)
      obtain ⟨e, he, rfl⟩ := List.mem_map.1 hxf
      have hxS : e.i ∉ fIdx S := fun hm => rdy_mem hrx (List.mem_append_left _ hm)
      refine XF.float a hR h1 h2 hn ag fa s he hxS hox fun g tm' w' k1 k2 k3 k4 k5 k6 => ?_
      refine ⟨((hL.sub fun y hy => (mem_cut.1 hy).1).le (Le.app_left q _)).sl k6, ?_⟩
      exact WA.mono _ (fun y hy => (mem_cut.1 hy).1) (ih ((e, g) :: S) tm' w' k1 k2 (by simp; omega) k3 k4 k5 k6)
/-- One of them must be made now: all else waits for it. -/
theorem XF.absorb (i : Nat) {e0 : FlE} (he0 : fl.find? (fun e => e.i == i) = some e0) (hR : FlR P G f ops done p fl) (hL : HL q L)
    (K : ∀ g, XF P G f Q ops k pk (fl.filter fun e => !(e.i == i)) L n (i :: done) ((e0.d, e0.V g) :: p) ds cs (e0.A g :: q))
    (hnd : (fl.map (·.i)).Nodup) (hon : ((List.range ops.length).all fun j => (fl.map (·.i)).contains j || !rdy ops (((fl.filter fun e => !(e.i == i)).map (·.i)) ++ done) j) = true) (hlen : Nat.ble fl.length (n + 1) = true) :
    XF P G f Q ops k pk fl L (n + 1) done p ds cs q := by
  have hm0 : e0 ∈ fl := List.mem_of_find?_eq_some he0
  have hi0 : e0.i = i := by have := List.find?_some he0; simpa using this
  have uniq : ∀ e ∈ fl, e.i = i → e = e0 := by
    intro e he hei
    have h1 := List.mem_iff_getElem.1 he
    have h2 := List.mem_iff_getElem.1 hm0
    obtain ⟨x, hx, rfl⟩ := h1
    obtain ⟨y, hy, rfl⟩ := h2
    have : x = y := by
      have h3 : (fl.map (·.i))[x]'(by simpa using hx) = (fl.map (·.i))[y]'(by simpa using hy) := by simp [hei, hi0]
      exact (List.getElem_inj hnd).1 h3
    subst this; rfl
  intro a b
  have inS : ∀ (S : FlS) m tm w g, (e0, g) ∈ S → (fIdx S).Nodup → (∀ e ∈ S, e.1 ∈ fl) → m + S.length = n + 1 → tm.size = f.n → Agr tm p → fAgr tm S → St G w (q ++ fCh S) → WA P ops (Ke' P G f Q k ds cs) (Kp' G Q f.n pk ds cs) m L (fIdx S ++ done) tm w := by
    intro S m tm w g hg h1 h2 h3 hn ag fa s
    obtain ⟨S1, S2, rfl⟩ := List.append_of_mem hg
    have hnd1 : (fIdx (S1 ++ S2)).Nodup ∧ i ∉ fIdx (S1 ++ S2) := by
      unfold fIdx at h1 ⊢
      rw [List.map_append, List.map_cons, ← hi0] at *
      have h4 := List.perm_middle.nodup_iff.1 h1
      exact ⟨(List.nodup_cons.1 h4).2, (List.nodup_cons.1 h4).1⟩
    have := K g a b (S1 ++ S2) m tm w hnd1.1 (fun e he => by
      have hef : e.1 ∈ fl := h2 e (by rcases List.mem_append.1 he with he | he <;> simp [he])
      refine List.mem_filter.2 ⟨hef, ?_⟩
      have : e.1.i ≠ i := fun e' => hnd1.2 (by rw [← e']; exact List.mem_map_of_mem he)
      simp [this]) (by simp at h3 ⊢; omega) hn (by
      intro t u hu
      simp only [lkp] at hu
      cases hb : Nat.beq e0.d t with
      | true =>
        rw [hb] at hu
        have := Nat.eq_of_beq_eq_true hb
        subst this
        simp at hu; subst hu
        exact fa (e0, g) hg
      | false => rw [hb] at hu; exact ag t u (by simpa using hu)) (fun e he => fa e (by rcases List.mem_append.1 he with he | he <;> simp [he])) (s.le (by
      unfold fCh
      rw [List.map_append, List.map_cons, List.map_append]
      rw [← List.append_assoc]
      refine (Le.midB _ _ _).trans ?_
      rw [List.append_assoc]
      exact Le.refl _))
    refine this.congr _ fun y => ?_
    unfold fIdx
    simp only [List.map_append, List.map_cons, List.mem_append, List.mem_cons, hi0]
    exact ⟨fun h => by rcases h with (h | h) | h | h <;> simp [h], fun h => by rcases h with (h | h | h) | h <;> simp [h]⟩
  intro S m
  induction m generalizing S with
  | zero =>
    intro tm w h1 h2 h3 hn ag fa s
    by_cases hg : ∃ g, (e0, g) ∈ S
    · obtain ⟨g, hg⟩ := hg; exact inS S 0 tm w g hg h1 h2 h3 hn ag fa s
    · exfalso
      have h4 : (e0.i :: fIdx S).length ≤ (fl.map (·.i)).length := by
        refine List.Nodup.length_le_of_subset (List.nodup_cons.2 ⟨fun hm => ?_, h1⟩) fun x hx => ?_
        · obtain ⟨e, he, e'⟩ := List.mem_map.1 hm
          have := uniq e.1 (h2 e he) (e'.trans hi0)
          exact hg ⟨e.2, by rw [← this]; exact he⟩
        · rcases List.mem_cons.1 hx with rfl | hx
          · exact List.mem_map_of_mem hm0
          · obtain ⟨e, he, rfl⟩ := List.mem_map.1 hx
            exact List.mem_map_of_mem (h2 e he)
      have : fl.length ≤ n + 1 := by simpa using hlen
      simp [fIdx] at h4
      omega
  | succ m ih =>
    intro tm w h1 h2 h3 hn ag fa s
    by_cases hg : ∃ g, (e0, g) ∈ S
    · obtain ⟨g, hg⟩ := hg; exact inS S (m + 1) tm w g hg h1 h2 h3 hn ag fa s
    · have hiS : i ∉ fIdx S := fun hm => by
        obtain ⟨e, he, e'⟩ := List.mem_map.1 hm
        have := uniq e.1 (h2 e he) e'
        exact hg ⟨e.2, by rw [← this]; exact he⟩
      obtain ⟨oi, hoi, hdi, hri, _⟩ := hR.get hm0
      rw [hi0] at hoi hri
      have hri' := rdy_more hri hiS
      refine ⟨fun hnone => absurd hri' (by simp [hnone i]), fun x ox hox hrx => ?_⟩
      have hxl : x < ops.length := (List.getElem?_eq_some_iff.1 hox).1
      have hxf : x ∈ fl.map (·.i) := by
        have h4 := List.all_eq_true.1 hon x (by simpa using hxl)
        rcases Decidable.em (x ∈ fl.map (·.i)) with h5 | h5
        · exact h5
        · have h6 : rdy ops ((fl.filter fun e => !(e.i == i)).map (·.i) ++ done) x = true := rdy_sup hrx (fun y hy => by
            rcases List.mem_append.1 hy with hy | hy
            · have hyi : y ≠ i := fun e => hiS (e ▸ hy)
              obtain ⟨e, he, rfl⟩ := List.mem_map.1 hy
              exact List.mem_append_left _ (List.mem_map_of_mem (List.mem_filter.2 ⟨h2 e he, by simpa using hyi⟩))
            · exact List.mem_append_right _ hy) (fun hm => by
            rcases List.mem_append.1 hm with hm | hm
            · obtain ⟨e, he, rfl⟩ := List.mem_map.1 hm
              exact h5 (List.mem_map_of_mem (List.mem_filter.1 he).1)
            · exact rdy_mem hrx (List.mem_append_right _ hm))
          simp only [Bool.or_eq_true, Bool.not_eq_true'] at h4
          rcases h4 with h4 | h4
          · exact absurd (by simpa using h4) h5
          · rw [h6] at h4; cases h4
      obtain ⟨e, he, rfl⟩ := List.mem_map.1 hxf
      have hxS : e.i ∉ fIdx S := fun hm => rdy_mem hrx (List.mem_append_left _ hm)
      refine XF.float a hR h1 h2 hn ag fa s he hxS hox fun g tm' w' k1 k2 k3 k4 k5 k6 => ?_
      refine ⟨((hL.sub fun y hy => (mem_cut.1 hy).1).le (Le.app_left q _)).sl k6, ?_⟩
      exact WA.mono _ (fun y hy => (mem_cut.1 hy).1) (ih ((e, g) :: S) tm' w' k1 k2 (by simp; omega) k3 k4 k5 k6)
theorem Le.comm : ∀ a b : List HP, Le (a ++ b) (b ++ a)
  | [], b => by rw [List.append_nil]; exact Le.refl _
  | A :: a, b => ((Le.comm a b).cons A).trans (Le.midF A b a)
theorem Le.liftR {q q' : List HP} (h : Le q q') (E : List HP) : Le (q ++ E) (q' ++ E) := (Le.comm q E).trans ((Le.append_left E h).trans (Le.comm E q'))
/-- A quiet operation, while blocks may be made. -/
theorem XF.pu_ (i : Nat) (hR : FlR P G f ops done p fl) (ho : ops[i]? = some o) (h : Pu P p o v) (hL : HL q L) (K : XF P G f Q ops k pk fl L n (i :: done) (putp p o.dst v) ds cs q)
    (hif : (fl.map (·.i)).contains i = false) (hr : rdy ops done i = true) (hw : Wt ops p o = some true) (hd : dOk f.n o.dst = true) (hlen : Nat.ble fl.length n = true) : XF P G f Q ops k pk fl L (n + 1) done p ds cs q := by
  intro a b S m tm w h1 h2 h3 hn ag fa s
  have hiS : i ∉ fIdx S := fun hm => by
    obtain ⟨e, he, e'⟩ := List.mem_map.1 hm
    have : i ∈ fl.map (·.i) := by rw [← e']; exact List.mem_map_of_mem (h2 e he)
    simp [this] at hif
  have hle : S.length ≤ fl.length := by
    have h4 : (fIdx S).length ≤ (fl.map (·.i)).length := by
      refine List.Nodup.length_le_of_subset h1 fun x hx => ?_
      obtain ⟨e, he, rfl⟩ := List.mem_map.1 hx
      exact List.mem_map_of_mem (h2 e he)
    simpa [fIdx] using h4
  have h5 : fl.length ≤ n := by simpa using hlen
  obtain ⟨m, rfl⟩ : ∃ m', m = m' + 1 := ⟨m - 1, by omega⟩
  have hS := (hL.le (Le.app_left q (fCh S))).sl s
  refine WA.first (Li := []) a ho (fun ch tm w => Kp'.of_put b ho ch tm w) (fun e he => by cases he) m L _ tm w (fun e he => by cases he) (rdy_more hr hiS) (.inl ⟨wanted_of ag hw, fun w' _ => h tm w' ag⟩) hS ?_
  refine WA.congr _ (done := fIdx S ++ (i :: done)) (fun y => by simp only [List.mem_append, List.mem_cons]; exact ⟨fun h => by rcases h with h | h | h <;> simp [h], fun h => by rcases h with h | h | h <;> simp [h]⟩) ?_
  refine K a b S m _ w h1 h2 (by omega) (by rw [putA_size]; exact hn) (ag.put (hn ▸ hd)) ?_ s
  intro e he
  obtain ⟨o2, ho2, hd2, hr2, _, _, _, _⟩ := hR.get (h2 e he)
  have hne : e.1.i ≠ i := fun e' => hiS (by rw [← e']; exact List.mem_map_of_mem he)
  have hdd := dst_ne a ho2 ho hne hr2 hr (rdy_mem hr) (rdy_mem hr2) hd2
  have := fa e he
  cases hdo : o.dst with
  | none => simpa [putA] using this
  | some d =>
    have hdne : d ≠ e.1.d := fun e' => hdd (by rw [hdo, e'])
    simpa [putA, Array.getElem?_setIfInBounds, hdne] using this
section
variable {d : Tmp} {op : Op} {ty : TypeId} {pos : String} {af : Array Edge} {gd : Option (Nat × Bool)}
theorem XF.pu (i : Nat) (hR : FlR P G f ops done p fl) (h : Pu P p ⟨some d, op, ty, pos, af, gd⟩ v) (K : XF P G f Q ops k pk fl L n (i :: done) ((d, v) :: p) ds cs q) (ho : ops[i]? = some ⟨some d, op, ty, pos, af, gd⟩ := by rfl) (hL : HL q L := by exact hlA)
    (hif : (fl.map (·.i)).contains i = false := by rfl) (hr : rdy ops done i = true := by rfl) (hw : Wt ops p ⟨some d, op, ty, pos, af, gd⟩ = some true := by rfl) (hd : Nat.blt d f.n = true := by rfl) (hlen : Nat.ble fl.length n = true := by rfl) : XF P G f Q ops k pk fl L (n + 1) done p ds cs q :=
  .pu_ i hR ho h hL K hif hr hw hd hlen
theorem XF.abs (i : Nat) {e0 : FlE} (hR : FlR P G f ops done p fl) (K : ∀ g, XF P G f Q ops k pk (fl.filter fun e => !(e.i == i)) L n (i :: done) ((e0.d, e0.V g) :: p) ds cs (e0.A g :: q)) (he0 : fl.find? (fun e => e.i == i) = some e0 := by rfl) (hL : HL q L := by exact hlA)
    (hnd : (fl.map (·.i)).Nodup := by decide) (hon : ((List.range ops.length).all fun j => (fl.map (·.i)).contains j || !rdy ops (((fl.filter fun e => !(e.i == i)).map (·.i)) ++ done) j) = true := by rfl) (hlen : Nat.ble fl.length (n + 1) = true := by rfl) :
    XF P G f Q ops k pk fl L (n + 1) done p ds cs q := .absorb i he0 hR hL K hnd hon hlen
theorem XF.ef (i : Nat) {R : Value → List HP → Prop} (hR : FlR P G f ops done p fl) (hE : ∀ E, Ef P G p (q ++ E) ⟨some d, op, ty, pos, af, gd⟩ fun v q' => ∃ q1, R v q1 ∧ q' = q1 ++ E)
    (K : ∀ v q1, R v q1 → HL q1 (cut ⟨some d, op, ty, pos, af, gd⟩ L) ∧ XF P G f Q ops k pk fl (cut ⟨some d, op, ty, pos, af, gd⟩ L) n (i :: done) ((d, v) :: p) ds cs q1)
    (ho : ops[i]? = some ⟨some d, op, ty, pos, af, gd⟩ := by rfl) (hL : HL q L := by exact hlA) (hon : onlyF ops (fl.map (·.i)) done i = true := by rfl) (hif : (fl.map (·.i)).contains i = false := by rfl) (hr : rdy ops done i = true := by rfl) (hw : Wt ops p ⟨some d, op, ty, pos, af, gd⟩ = some true := by rfl) (hd : Nat.blt d f.n = true := by rfl) (hlen : Nat.ble fl.length n = true := by rfl) :
    XF P G f Q ops k pk fl L (n + 1) done p ds cs q := .step i hR ho hE hL (fun v q1 h => (K v q1 h).2) hon hif hr hw hd hlen (fun v q1 h => (K v q1 h).1)
end
/-- append to an owned list, whatever else stands. -/
theorem Ef.appE {α : Type} {r : List HP} {fe : α → Value} {a b : Option Addr} {c c' : Nat} {l m : List α} {e : TypeId} {d : Option Tmp} {ty' : TypeId} {pos : String} {af : Array Edge} {gd : Option (Nat × Bool)} {x y : Operand} {t : TypeId} {z : Value} {bytes : Nat} (ht : P.underlying t = some (.slice e)) (hi : (P.info? e).map (fun i => (i.zero, i.size, i.bytes)) = some (some z, 1, bytes)) (hz : z.cells.size = 1)
    (hx : evp p x = some (.slice a l.length c)) (hy : evp p y = some (.slice b m.length c')) (hq : Le q (Wx.lsH fe e a c l :: r)) (hs : Sees q b (m.map fe)) (h1 : ∀ u, (fe u).oneCell' = true)
    (h63 : l.length + m.length ≤ 9223372036854775807) (hby : (l.length + m.length) * bytes ≤ 140737488355328) (E : List HP) :
    Ef P G p (q ++ E) ⟨d, .call ⟨.builtin .append, [x, y].toArray, [t, t].toArray⟩, ty', pos, af, gd⟩ fun v q' => ∃ q1, (∃ a' c', v = .slice a' (l ++ m).length c' ∧ q1 = Wx.lsH fe e a' c' (l ++ m) :: r) ∧ q' = q1 ++ E := by
  intro tm w ag s
  obtain ⟨v, w', q', h1', h2', a', c'', h3, h4⟩ := Ef.appA (P := P) (G := G) (d := d) (ty' := ty') (pos := pos) (af := af) (gd := gd) (r := r ++ E) ht hi hz hx hy (hq.liftR E) (hs.le (Le.app_left q E)) h1 h63 hby tm w ag s
  exact ⟨v, w', q', h1', h2', _, ⟨a', c'', h3, rfl⟩, h4⟩
/-- What makes a block, whatever else stands. -/
theorem Ef.newE {V : Nat → Value} {A : Nat → HP} (h : ∀ q, Ef P G p q o fun v q' => ∃ g, v = V g ∧ q' = A g :: q) (E : List HP) : Ef P G p (q ++ E) o fun v q' => ∃ q1, (∃ g, v = V g ∧ q1 = A g :: q) ∧ q' = q1 ++ E := by
  intro tm w ag s
  obtain ⟨v, w', q', h1, h2, g, h3, h4⟩ := h (q ++ E) tm w ag s
  exact ⟨v, w', q', h1, h2, _, ⟨g, h3, rfl⟩, h4⟩
end
end Wx
