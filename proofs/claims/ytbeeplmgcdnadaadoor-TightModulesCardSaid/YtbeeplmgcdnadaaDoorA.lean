/- What functions of package ops, of its references and of its laws do: contracts of calls, proved by walking their code. -/
import Derived.Test.YtbeeplmgcdnadaaDoorRows
import Derived.Test.YtbeeplmgcdnadaaDoorWe
import Derived.KernelRfl
set_option maxRecDepth 100000
set_option linter.unusedVariables false
set_option linter.unusedSimpArgs false
namespace Go.Proofs.YtbeeplmgcdnadaaDoor
open Go Go.RowKit Wx

/-! ### what is known of types -/
def tbl : Tr := (.n none (.n none (.n (some (.mk (.int .i64) false 1 none)) (.n none (.n none (.n none .e (.n (some (.mk .fn false 1 none)) .e .e)) (.n none (.n (some (.mk (.slc 4) false 1 none)) .e .e) .e)) (.n (some (.mk (.slc 3) false 1 none)) .e (.n none (.n none (.n (some (.mk (.strct [(9, 0), (3, 1)]) true 2 (some ([(0, 1), (1, 1)], [.string ⟨#[]⟩, .int .i64 0])))) .e .e) .e) .e))) (.n none (.n none (.n (some (.mk (.strct [(9, 0), (3, 1), (33, 2), (23, 3)]) true 4 (some ([(0, 1), (1, 1), (2, 1), (3, 1)], [.string ⟨#[]⟩, .int .i64 0, .slice none 0 0, .slice none 0 0])))) (.n (some (.mk (.slc 70) false 1 none)) .e .e) (.n (some (.mk .ptr false 1 none)) .e .e)) (.n (some (.mk (.int .i64) false 1 none)) .e .e)) (.n none (.n none (.n (some (.mk .ptr false 1 none)) .e .e) .e) (.n none .e (.n (some (.mk (.strct [(3, 0), (3, 1)]) true 2 (some ([(0, 1), (1, 1)], [.int .i64 0, .int .i64 0])))) .e .e))))) (.n none (.n (some (.mk .str false 1 none)) (.n none (.n (some (.mk (.slc 53) false 1 none)) .e .e) (.n none (.n none (.n (some (.mk (.slc 9) false 1 none)) .e .e) .e) .e)) (.n none (.n (some (.mk (.slc 23) false 1 none)) .e .e) .e)) (.n none (.n none .e (.n (some (.mk (.strct [(51, 0), (3, 1), (3, 2), (2, 3)]) true 4 (some ([(0, 1), (1, 1), (2, 1), (3, 1)], [.int .i64 0, .int .i64 0, .int .i64 0, .int .i64 0])))) .e .e)) (.n (some (.mk (.int .i64) false 1 none)) .e .e)))) (.n (some (.mk (.int .i64) false 1 none)) (.n (some (.mk .bool false 1 none)) (.n none (.n none (.n none (.n (some (.mk (.strct [(35, 0), (23, 4)]) true 5 (some ([(0, 4), (4, 1)], [.string ⟨#[]⟩, .int .i64 0, .slice none 0 0, .slice none 0 0, .slice none 0 0])))) .e .e) .e) .e) (.n (some (.mk (.slc 35) false 1 none)) .e (.n none (.n (some (.mk .fn false 1 none)) (.n (some (.mk .other true 70 none)) .e .e) .e) .e))) (.n none (.n none (.n none .e (.n (some (.mk (.slc 3) false 1 none)) .e .e)) (.n none .e (.n (some (.mk .fn false 1 none)) .e .e))) (.n none (.n none (.n (some (.mk .fn false 1 none)) (.n (some (.mk (.strct [(9, 0), (4, 1), (4, 2), (4, 3)]) true 4 (some ([(0, 1), (1, 1), (2, 1), (3, 1)], [.string ⟨#[]⟩, .bool false, .bool false, .bool false])))) .e .e) .e) .e) (.n none (.n (some (.mk .fn false 1 none)) .e .e) (.n (some (.mk .other true 70 none)) .e .e))))) (.n none (.n none .e (.n (some (.mk (.strct [(22, 0), (23, 1), (23, 2), (3, 3), (3, 4), (24, 5)]) true 6 (some ([(0, 1), (1, 1), (2, 1), (3, 1), (4, 1), (5, 1)], [.slice none 0 0, .slice none 0 0, .slice none 0 0, .int .i64 0, .int .i64 0, .slice none 0 0])))) .e .e)) (.n none (.n (some (.mk (.slc 2) false 1 none)) (.n none (.n (some (.mk (.strct [(53, 0), (3, 4), (3, 5)]) true 6 (some ([(0, 4), (4, 1), (5, 1)], [.int .i64 0, .int .i64 0, .int .i64 0, .int .i64 0, .int .i64 0, .int .i64 0])))) .e .e) .e) (.n none (.n (some (.mk .other true 3 none)) .e .e) .e)) (.n none (.n none (.n (some (.mk .fn false 1 none)) .e .e) .e) .e)))))
theorem tbl_ok : tbl.ok Tryd.prog id := ⟨trivial, ⟨trivial, ⟨⟨Tryd.underlying3, Tryd.isAgg3, Tryd.sizeOf3, trivial⟩, ⟨trivial, ⟨trivial, ⟨trivial, trivial, ⟨⟨⟨_, _, _, Tryd.underlying95⟩, Tryd.isAgg95, Tryd.sizeOf95, trivial⟩, trivial, trivial⟩⟩, ⟨trivial, ⟨⟨Tryd.underlying79, Tryd.isAgg79, Tryd.sizeOf79, trivial⟩, trivial, trivial⟩, trivial⟩⟩, ⟨⟨Tryd.underlying23, Tryd.isAgg23, Tryd.sizeOf23, trivial⟩, trivial, ⟨trivial, ⟨trivial, ⟨⟨⟨_, Tryd.underlying151, rfl⟩, Tryd.isAgg151, Tryd.sizeOf151, ⟨Tryd.zeroValue151, _, Tryd.underlying151, by kernel_rfl⟩⟩, trivial, trivial⟩, trivial⟩, trivial⟩⟩⟩, ⟨trivial, ⟨trivial, ⟨⟨⟨_, Tryd.underlying35, rfl⟩, Tryd.isAgg35, Tryd.sizeOf35, ⟨Tryd.zeroValue35, _, Tryd.underlying35, by kernel_rfl⟩⟩, ⟨⟨Tryd.underlying67, Tryd.isAgg67, Tryd.sizeOf67, trivial⟩, trivial, trivial⟩, ⟨⟨⟨_, Tryd.underlying99⟩, Tryd.isAgg99, Tryd.sizeOf99, trivial⟩, trivial, trivial⟩⟩, ⟨⟨Tryd.underlying51, Tryd.isAgg51, Tryd.sizeOf51, trivial⟩, trivial, trivial⟩⟩, ⟨trivial, ⟨trivial, ⟨⟨⟨_, Tryd.underlying75⟩, Tryd.isAgg75, Tryd.sizeOf75, trivial⟩, trivial, trivial⟩, trivial⟩, ⟨trivial, trivial, ⟨⟨⟨_, Tryd.underlying123, rfl⟩, Tryd.isAgg123, Tryd.sizeOf123, ⟨Tryd.zeroValue123, _, Tryd.underlying123, by kernel_rfl⟩⟩, trivial, trivial⟩⟩⟩⟩⟩, ⟨trivial, ⟨⟨Tryd.underlying9, Tryd.isAgg9, Tryd.sizeOf9, trivial⟩, ⟨trivial, ⟨⟨Tryd.underlying33, Tryd.isAgg33, Tryd.sizeOf33, trivial⟩, trivial, trivial⟩, ⟨trivial, ⟨trivial, ⟨⟨Tryd.underlying145, Tryd.isAgg145, Tryd.sizeOf145, trivial⟩, trivial, trivial⟩, trivial⟩, trivial⟩⟩, ⟨trivial, ⟨⟨Tryd.underlying41, Tryd.isAgg41, Tryd.sizeOf41, trivial⟩, trivial, trivial⟩, trivial⟩⟩, ⟨trivial, ⟨trivial, trivial, ⟨⟨⟨_, Tryd.underlying53, rfl⟩, Tryd.isAgg53, Tryd.sizeOf53, ⟨Tryd.zeroValue53, _, Tryd.underlying53, by kernel_rfl⟩⟩, trivial, trivial⟩⟩, ⟨⟨Tryd.underlying29, Tryd.isAgg29, Tryd.sizeOf29, trivial⟩, trivial, trivial⟩⟩⟩⟩, ⟨⟨Tryd.underlying2, Tryd.isAgg2, Tryd.sizeOf2, trivial⟩, ⟨⟨Tryd.underlying4, Tryd.isAgg4, Tryd.sizeOf4, trivial⟩, ⟨trivial, ⟨trivial, ⟨trivial, ⟨⟨⟨_, Tryd.underlying64, rfl⟩, Tryd.isAgg64, Tryd.sizeOf64, ⟨Tryd.zeroValue64, _, Tryd.underlying64, by kernel_rfl⟩⟩, trivial, trivial⟩, trivial⟩, trivial⟩, ⟨⟨Tryd.underlying24, Tryd.isAgg24, Tryd.sizeOf24, trivial⟩, trivial, ⟨trivial, ⟨⟨⟨_, _, _, Tryd.underlying88⟩, Tryd.isAgg88, Tryd.sizeOf88, trivial⟩, ⟨⟨⟨_, Tryd.underlying152, rfl⟩, Tryd.isAgg152, Tryd.sizeOf152, trivial⟩, trivial, trivial⟩, trivial⟩, trivial⟩⟩⟩, ⟨trivial, ⟨trivial, ⟨trivial, trivial, ⟨⟨Tryd.underlying100, Tryd.isAgg100, Tryd.sizeOf100, trivial⟩, trivial, trivial⟩⟩, ⟨trivial, trivial, ⟨⟨⟨_, _, _, Tryd.underlying116⟩, Tryd.isAgg116, Tryd.sizeOf116, trivial⟩, trivial, trivial⟩⟩⟩, ⟨trivial, ⟨trivial, ⟨⟨⟨_, _, _, Tryd.underlying76⟩, Tryd.isAgg76, Tryd.sizeOf76, trivial⟩, ⟨⟨⟨_, Tryd.underlying140, rfl⟩, Tryd.isAgg140, Tryd.sizeOf140, ⟨Tryd.zeroValue140, _, Tryd.underlying140, by kernel_rfl⟩⟩, trivial, trivial⟩, trivial⟩, trivial⟩, ⟨trivial, ⟨⟨⟨_, _, _, Tryd.underlying92⟩, Tryd.isAgg92, Tryd.sizeOf92, trivial⟩, trivial, trivial⟩, ⟨⟨⟨_, Tryd.underlying124, rfl⟩, Tryd.isAgg124, Tryd.sizeOf124, trivial⟩, trivial, trivial⟩⟩⟩⟩⟩, ⟨trivial, ⟨trivial, trivial, ⟨⟨⟨_, Tryd.underlying26, rfl⟩, Tryd.isAgg26, Tryd.sizeOf26, ⟨Tryd.zeroValue26, _, Tryd.underlying26, by kernel_rfl⟩⟩, trivial, trivial⟩⟩, ⟨trivial, ⟨⟨Tryd.underlying22, Tryd.isAgg22, Tryd.sizeOf22, trivial⟩, ⟨trivial, ⟨⟨⟨_, Tryd.underlying70, rfl⟩, Tryd.isAgg70, Tryd.sizeOf70, ⟨Tryd.zeroValue70, _, Tryd.underlying70, by kernel_rfl⟩⟩, trivial, trivial⟩, trivial⟩, ⟨trivial, ⟨⟨⟨_, Tryd.underlying86, rfl⟩, Tryd.isAgg86, Tryd.sizeOf86, trivial⟩, trivial, trivial⟩, trivial⟩⟩, ⟨trivial, ⟨trivial, ⟨⟨⟨_, _, _, Tryd.underlying78⟩, Tryd.isAgg78, Tryd.sizeOf78, trivial⟩, trivial, trivial⟩, trivial⟩, trivial⟩⟩⟩⟩⟩
section
variable {G : World} {f : Fc} {Q : Post} {k k' : List Item} {p p' : PE} {c : List Prop} {ds : List Deferred} {cs : List Frame} {q : List HP} {ops l ops' l' : List Oper} {pk : PE} {L : Rds} {n n' : Nat} {done done' : List Nat}
theorem xx (m : Nat) (K : X Tryd.prog G f Q k' p' ds cs q) (h : stn tbl f.n m .code k p [] = some ⟨.code, k', p', c⟩ := by exact rfl) (hc : AllP c := by repeat (first | exact trivial | refine allP_cons (by first | omega | (simp; done) | (simp; omega)) ?_)) : X Tryd.prog G f Q k p ds cs q := stXX tbl_ok m h hc K
theorem xo (m : Nat) (K : XO Tryd.prog G f Q ops'.toArray k' l' p' ds cs q) (h : stn tbl f.n m .code k p [] = some ⟨.ops ops' l', k', p', c⟩ := by exact rfl) (hc : AllP c := by repeat (first | exact trivial | refine allP_cons (by first | omega | (simp; done) | (simp; omega)) ?_)) : X Tryd.prog G f Q k p ds cs q := stXO tbl_ok m h hc K
theorem ox (m : Nat) (K : X Tryd.prog G f Q k' p' ds cs q) (h : stn tbl f.n m (.ops ops l) k p [] = some ⟨.code, k', p', c⟩ := by exact rfl) (hc : AllP c := by repeat (first | exact trivial | refine allP_cons (by first | omega | (simp; done) | (simp; omega)) ?_)) : XO Tryd.prog G f Q ops.toArray k l p ds cs q := stOX tbl_ok m h hc K
theorem oo (m : Nat) (K : XO Tryd.prog G f Q ops'.toArray k' l' p' ds cs q) (h : stn tbl f.n m (.ops ops l) k p [] = some ⟨.ops ops' l', k', p', c⟩ := by exact rfl) (hc : AllP c := by repeat (first | exact trivial | refine allP_cons (by first | omega | (simp; done) | (simp; omega)) ?_)) : XO Tryd.prog G f Q ops.toArray k l p ds cs q := stOO tbl_ok m h hc K
theorem dd (is : List Nat) (K : XD Tryd.prog G f Q ops k pk L n' done' p' ds cs q) (h : sdn tbl f.n ops is n done p [] = some ⟨n', done', p', c⟩ := by exact rfl) (hc : AllP c := by repeat (first | exact trivial | refine allP_cons (by first | omega | (simp; done) | (simp; omega)) ?_)) : XD Tryd.prog G f Q ops k pk L n done p ds cs q := stDD tbl_ok is h hc K
variable {rest : List Oper} {d : Tmp} {t ty : TypeId} {pos : String} {af : Array Edge} {gd : Option (Nat × Bool)} {x y : Operand} {A : Addr} {v : Value} {b o sz : Nat} {l vs : List Value} {t' : TypeId} {fz : Nat × Nat} {r : List HP}
theorem ld (K : XO Tryd.prog G f Q ops.toArray k rest ((d, v) :: p) ds cs q) (hx : evp p x = some (.pointer (some A)) := by rfl) (hc : Cl q A v := by exact clA)
    (hw : Wt ops p ⟨some d, .load t x, ty, pos, af, gd⟩ = some true := by rfl) (hd : Nat.blt d f.n = true := by rfl) (ht : tbl.lf t = true := by rfl) :
    XO Tryd.prog G f Q ops.toArray k (⟨some d, .load t x, ty, pos, af, gd⟩ :: rest) p ds cs q := .ld (Tr.lf_ok tbl_ok ht) K hx hc hw hd
theorem ldA (K : XO Tryd.prog G f Q ops.toArray k rest ((d, .agg (Wx.sub l o sz).toArray) :: p) ds cs q) (ht : tbl.ag t = some sz := by rfl) (hx : evp p x = some (.pointer (some ⟨b, o, none⟩)) := by rfl) (hh : Has q b (.cells l.toArray t' fz) := by exact hasA) (hv : Nat.ble (o + sz) l.length = true := by rfl)
    (hw : Wt ops p ⟨some d, .load t x, ty, pos, af, gd⟩ = some true := by rfl) (hd : Nat.blt d f.n = true := by rfl) :
    XO Tryd.prog G f Q ops.toArray k (⟨some d, .load t x, ty, pos, af, gd⟩ :: rest) p ds cs q := .ldA (Tr.ag_ok tbl_ok ht).1 (Tr.ag_ok tbl_ok ht).2 K hx hh hv hw hd
theorem ldD (i : Nat) (K : XD Tryd.prog G f Q ops k pk ((i, b, o, v) :: L) n (i :: done) ((d, v) :: p) ds cs q)
    (ho : ops[i]? = some ⟨some d, .load t x, ty, pos, af, gd⟩ := by rfl) (hx : evp p x = some (.pointer (some ⟨b, o, none⟩)) := by rfl) (hc : Cl q ⟨b, o, none⟩ v := by exact clA)
    (hr : rdy ops done i = true := by rfl) (hw : Wt ops p ⟨some d, .load t x, ty, pos, af, gd⟩ = some true := by rfl) (hd : Nat.blt d f.n = true := by rfl) (ht : tbl.lf t = true := by rfl) : XD Tryd.prog G f Q ops k pk L (n + 1) done p ds cs q := .ld i (Tr.lf_ok tbl_ok ht) K ho hx hc hr hw hd
theorem ldAD (i : Nat) (K : XD Tryd.prog G f Q ops k pk (rdA i b o (Wx.sub l o sz) ++ L) n (i :: done) ((d, .agg (Wx.sub l o sz).toArray) :: p) ds cs q)
    (ho : ops[i]? = some ⟨some d, .load t x, ty, pos, af, gd⟩ := by rfl) (ht : tbl.ag t = some sz := by rfl) (hx : evp p x = some (.pointer (some ⟨b, o, none⟩)) := by rfl) (hh : Has q b (.cells l.toArray t' fz) := by exact hasA) (hv : Nat.ble (o + sz) l.length = true := by rfl)
    (hr : rdy ops done i = true := by rfl) (hw : Wt ops p ⟨some d, .load t x, ty, pos, af, gd⟩ = some true := by rfl) (hd : Nat.blt d f.n = true := by rfl) : XD Tryd.prog G f Q ops k pk L (n + 1) done p ds cs q := .loadA i ho hx (Tr.ag_ok tbl_ok ht).1 (Tr.ag_ok tbl_ok ht).2 hh hv K hr hw hd
theorem st (K : XO Tryd.prog G f Q ops.toArray k rest p ds cs (pto b (.cells (setl l o v).toArray t' (0, 0)) :: r)) (hx : evp p x = some (.pointer (some ⟨b, o, none⟩)) := by rfl) (hy : evp p y = some v := by rfl)
    (hv : v.cells = #[v] := by rfl) (h1 : v.oneCell' = true := by rfl) (hq : Le q (pto b (.cells l.toArray t' (0, 0)) :: r) := by exact fndA) (ho : Nat.blt o l.length = true := by rfl)
    (hw : Wt ops p ⟨none, .store t x y, ty, pos, af, gd⟩ = some true := by rfl) (hs : tbl.s1 t = true := by rfl) : XO Tryd.prog G f Q ops.toArray k (⟨none, .store t x y, ty, pos, af, gd⟩ :: rest) p ds cs q := .st tbl_ok hs K hx hy hv h1 hq ho hw
theorem stA (K : XO Tryd.prog G f Q ops.toArray k rest p ds cs (pto b (.cells (splice l o vs).toArray t' (0, 0)) :: r)) (hs : tbl.ag t = some sz := by rfl) (hx : evp p x = some (.pointer (some ⟨b, o, none⟩)) := by rfl) (hy : evp p y = some (.agg vs.toArray) := by rfl)
    (hl : vs.length = sz := by rfl) (h1 : vs.all (·.oneCell') = true := by rfl) (hq : Le q (pto b (.cells l.toArray t' (0, 0)) :: r) := by exact fndA) (ho : Nat.ble (o + sz) l.length = true := by rfl)
    (hw : Wt ops p ⟨none, .store t x y, ty, pos, af, gd⟩ = some true := by rfl) : XO Tryd.prog G f Q ops.toArray k (⟨none, .store t x y, ty, pos, af, gd⟩ :: rest) p ds cs q := .stA tbl_ok hs K hx hy hl h1 hq ho hw
theorem stD (i : Nat) (K : XD Tryd.prog G f Q ops k pk (cut ⟨none, .store t x y, ty, pos, af, gd⟩ L) n (i :: done) p ds cs (pto b (.cells (setl l o v).toArray t' (0, 0)) :: r))
    (ho : ops[i]? = some ⟨none, .store t x y, ty, pos, af, gd⟩ := by rfl) (hx : evp p x = some (.pointer (some ⟨b, o, none⟩)) := by rfl) (hy : evp p y = some v := by rfl)
    (hv : v.cells = #[v] := by rfl) (h1 : v.oneCell' = true := by rfl) (hq : Le q (pto b (.cells l.toArray t' (0, 0)) :: r) := by exact fndA) (ho2 : Nat.blt o l.length = true := by rfl)
    (hh : HL (pto b (.cells (setl l o v).toArray t' (0, 0)) :: r) (cut ⟨none, .store t x y, ty, pos, af, gd⟩ L) := by exact hlA)
    (h2 : onlyR ops done i = true := by rfl) (hr : rdy ops done i = true := by rfl) (hw : Wt ops p ⟨none, .store t x y, ty, pos, af, gd⟩ = some true := by rfl) (hs : tbl.s1 t = true := by rfl) : XD Tryd.prog G f Q ops k pk L (n + 1) done p ds cs q := .st i tbl_ok hs K ho hx hy hv h1 hq ho2 hh h2 hr hw
theorem stAD (i : Nat) (K : XD Tryd.prog G f Q ops k pk (cut ⟨none, .store t x y, ty, pos, af, gd⟩ L) n (i :: done) p ds cs (pto b (.cells (splice l o vs).toArray t' (0, 0)) :: r))
    (ho : ops[i]? = some ⟨none, .store t x y, ty, pos, af, gd⟩ := by rfl) (hs : tbl.ag t = some sz := by rfl) (hx : evp p x = some (.pointer (some ⟨b, o, none⟩)) := by rfl) (hy : evp p y = some (.agg vs.toArray) := by rfl)
    (hl : vs.length = sz := by rfl) (h1 : vs.all (·.oneCell') = true := by rfl) (hq : Le q (pto b (.cells l.toArray t' (0, 0)) :: r) := by exact fndA) (ho2 : Nat.ble (o + sz) l.length = true := by rfl)
    (hh : HL (pto b (.cells (splice l o vs).toArray t' (0, 0)) :: r) (cut ⟨none, .store t x y, ty, pos, af, gd⟩ L) := by exact hlA)
    (h2 : onlyR ops done i = true := by rfl) (hr : rdy ops done i = true := by rfl) (hw : Wt ops p ⟨none, .store t x y, ty, pos, af, gd⟩ = some true := by rfl) : XD Tryd.prog G f Q ops k pk L (n + 1) done p ds cs q := .stA i tbl_ok hs K ho hx hy hl h1 hq ho2 hh h2 hr hw
theorem Tryd.mixed : Tryd.prog.follows .mixedOrders = true := by kernel_rfl
theorem drw {id : Nat} (x : XD Tryd.prog G f Q ops k [] [] ops.length [] p ds cs q) (h1 : okR ops = true := by kernel_rfl) (h2 : edgesIn ops = true := by kernel_rfl) (h3 : pkFree ops [] = true := by rfl) : X Tryd.prog G f Q (.code (.region id ops.toArray true) :: k) p ds cs q := .draw [] Tryd.mixed h1 h2 h3 x
end

/-! ### modules, as plain data -/
structure Ins where
  c : Int
  a : Int
  b : Int
  n : Int
def insC (i : Ins) : List Value := [.int .i64 i.c, .int .i64 i.a, .int .i64 i.b, .int .i64 i.n]
structure Cod where
  name : ByteArray
  locals : Int
  ins : List Ins
  lines : List Int
  ia : Option Addr
  ic : Nat
  la : Option Addr
  lc : Nat
def codC (x : Cod) : List Value := [.string x.name, .int .i64 x.locals, .slice x.ia x.ins.length x.ic, .slice x.la x.lines.length x.lc]
structure Mdl where
  vars : List Int
  arrays : List Int
  chans : List Int
  mutexes : Int
  conds : Int
  threads : List Cod
  va : Option Addr
  vc : Nat
  aa : Option Addr
  ac : Nat
  ca : Option Addr
  cc : Nat
  ta : Option Addr
  tc : Nat
def mdlC (m : Mdl) : List Value := [.slice m.va m.vars.length m.vc, .slice m.aa m.arrays.length m.ac, .slice m.ca m.chans.length m.cc, .int .i64 m.mutexes, .int .i64 m.conds, .slice m.ta m.threads.length m.tc]
abbrev I64 : Int → Value := Value.int .i64
/-- What is read of a thread's code, of a module. -/
structure CodQ (q : List HP) (x : Cod) : Prop where
  i : Sees q x.ia (x.ins.flatMap insC)
  l : Sees q x.la (x.lines.map I64)
  n : x.name.size ≤ 9223372036854775807
  ni : x.ins.length ≤ 9223372036854775807
  nl : x.lines.length ≤ 9223372036854775807
structure MdlQ (q : List HP) (m : Mdl) : Prop where
  v : Sees q m.va (m.vars.map I64)
  a : Sees q m.aa (m.arrays.map I64)
  c : Sees q m.ca (m.chans.map I64)
  t : Sees q m.ta (m.threads.flatMap codC)
  x : ∀ x ∈ m.threads, CodQ q x
  nv : m.vars.length ≤ 9223372036854775807
  na : m.arrays.length ≤ 9223372036854775807
  nc : m.chans.length ≤ 9223372036854775807
  nt : m.threads.length ≤ 9223372036854775807
  ka : m.arrays.length ≤ m.ac
theorem CodQ.le {q q' : List HP} {x : Cod} (h : CodQ q' x) (k : Le q q') : CodQ q x := ⟨h.i.le k, h.l.le k, h.n, h.ni, h.nl⟩
theorem MdlQ.le {q q' : List HP} {m : Mdl} (h : MdlQ q' m) (k : Le q q') : MdlQ q m := ⟨h.v.le k, h.a.le k, h.c.le k, h.t.le k, fun x hx => (h.x x hx).le k, h.nv, h.na, h.nc, h.nt, h.ka⟩
/-- Which codes name A. -/
def nmA (c : Int) : Bool := decide ((2 ≤ c ∧ c ≤ 7) ∨ (19 ≤ c ∧ c ≤ 21) ∨ (23 ≤ c ∧ c ≤ 31))
def insOk (i : Ins) : Prop := (1 ≤ i.c ∧ i.c ≤ 34) ∧ (if nmA i.c = true then 0 ≤ i.a ∧ i.a ≤ 65535 else i.a = 0) ∧ (if i.c = 26 then 0 ≤ i.b ∧ i.b ≤ 65535 else i.b = 0) ∧ (if i.c = 1 then -2147483648 ≤ i.n ∧ i.n ≤ 2147483647 else i.n = 0)
instance (i : Ins) : Decidable (insOk i) := by unfold insOk; infer_instance
def within (n lo hi : Int) : Prop := lo ≤ n ∧ n ≤ hi
instance (n lo hi : Int) : Decidable (within n lo hi) := by unfold within; infer_instance
def codOk (x : Cod) : Prop := within x.name.size 1 16 ∧ within x.locals 0 32 ∧ (x.ins.length : Int) = x.lines.length ∧ ((x.ins.length : Int) ≤ 65536 ∧ ∀ i ∈ x.ins, insOk i) ∧ ((x.lines.length : Int) ≤ 65536 ∧ ∀ n ∈ x.lines, within n 0 65536)
instance (x : Cod) : Decidable (codOk x) := by unfold codOk; infer_instance
def mdlOk (m : Mdl) : Prop := within m.mutexes 0 64 ∧ within m.conds 0 64 ∧ ((m.vars.length : Int) ≤ 64 ∧ ∀ n ∈ m.vars, within n (-2147483648) 2147483647) ∧ ((m.arrays.length : Int) ≤ 64 ∧ ∀ n ∈ m.arrays, within n 0 256) ∧ ((m.chans.length : Int) ≤ 64 ∧ ∀ n ∈ m.chans, within n 1 16) ∧ ((m.threads.length : Int) ≤ 64 ∧ ∀ x ∈ m.threads, codOk x)
instance (m : Mdl) : Decidable (mdlOk m) := by unfold mdlOk; infer_instance
def mchk (m : Mdl) : Int := if mdlOk m then 0 else 2
theorem mchk_iff {m : Mdl} : mchk m = 0 ↔ mdlOk m := by unfold mchk; split <;> simp_all
/-! the codes' table -/
def cdC (x : ByteArray × Int) : List Value := [.string x.1, .int .i64 x.2]
def whatL : List Int := [0, 3, 1, 1, 1, 1, 1, 1, 0, 0, 0, 0, 0, 0, 0, 0, 0, 0, 0, 1, 1, 1, 0, 1, 1, 1, 2, 1, 1, 1, 1, 1, 0, 0, 0]
theorem whatL_at : ∀ k : Fin 35, 1 ≤ k.val → ((whatL[k.val]'k.isLt == 1 || whatL[k.val]'k.isLt == 2) = nmA k.val) ∧ ((whatL[k.val]'k.isLt == 2) = decide ((k.val : Int) = 26)) ∧ ((whatL[k.val]'k.isLt == 3) = decide ((k.val : Int) = 1)) := by decide
theorem if_dec {φ ψ : Prop} [Decidable φ] [Decidable ψ] {α : Type} {x y : α} (h : φ ↔ ψ) : (if φ then x else y) = (if ψ then x else y) := by
  by_cases k : φ
  · rw [if_pos k, if_pos (h.1 k)]
  · rw [if_neg k, if_neg fun e => k (h.2 e)]
theorem any_take {α : Type} {p : α → Bool} {l : List α} {n : Nat} (h : n < l.length) : (l.take (n + 1)).any p = ((l.take n).any p || p l[n]) := by
  rw [List.take_succ_eq_append_getElem h, List.any_append]; simp
theorem any_at {α : Type} {p : α → Bool} {l : List α} {n : Nat} (h : n < l.length) (hp : p l[n] = true) : l.any p = true := List.any_eq_true.2 ⟨_, List.getElem_mem h, hp⟩

end Go.Proofs.YtbeeplmgcdnadaaDoor

