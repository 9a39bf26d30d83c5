/- Contracts. -/
import Derived.Test.YtadahhbefdnabaaGreatDoorVb
import Derived.Test.YtadahhbefdnabaaGreatDoorRows
import Derived.KernelRfl
import Derived.LaidEqlPtr
set_option maxHeartbeats 16000000
set_option maxRecDepth 100000
set_option linter.all false
namespace Go.Proofs.YtadahhbefdnabaaGreatDoor
open Go Go.RowKit Wx Go.Proofs.Tryz
variable {n b o sz t0 z0 a1 t1 b1 o1 z1 a2 n1 n2 m rid i s:Nat}{l:List (Nat×Nat)}{p p1 p2:PE}{c1:List Prop}{q C F M q':List HP}{l0 o2 r2:List Oper}{L:Rds}{d1:Tmp}{ps1:String}{af1:Array Edge}{gd1:Option (Nat×Bool)}{x1 i0:Operand}{A A1:Addr}{v v1 v2 V u:Value}{l1 us:List Value}{fz f0 f1:Nat×Nat}{fd:Func}{a0 b0:Code}{o0:Oper}{φ ψ D Z:Prop}{z r1:Bool}{B:Value->List HP->Prop}{a:Option Addr}{md:Md}{d0:Option Tmp}{rs:List ResultVar}{fn:FuncId}{R:Wx.Uc}
abbrev zz0:List Value:=[.int .i64 0,.int .i64 0,.bool false,.int .i64 0,.slice none 0 0,.bool false,.int .i64 0,.int .i64 0,.slice none 0 0]
abbrev zz1:List Value:=[.int .i64 0,.int .i64 0,.int .i64 0,.int .i64 0]
abbrev zz2:List Value:=[.int .i64 0,.int .i64 0,.int .i64 0,.string ⟨#[]⟩,.string ⟨#[]⟩,.int .i64 0,.int .i64 0,.string ⟨#[]⟩,.int .i64 0,.bool false,.int .i64 0,.slice none 0 0,.int .i64 0,.int .i64 0,.string ⟨#[]⟩,.int .i64 0,.bool false,.int .i64 0,.slice none 0 0,.slice none 0 0,.slice none 0 0,.int .i64 0,.int .i64 0,.int .i64 0,.bool false]
abbrev zz3:List Value:=[.int .i64 0,.int .i64 0,.string ⟨#[]⟩,.int .i64 0,.bool false,.int .i64 0,.slice none 0 0]
abbrev zz4:List Value:=[.int .i64 0,.int .i64 0]
abbrev zz5:List Value:=[.int .i64 0]
abbrev zz6:List Value:=[.slice none 0 0,.slice none 0 0,.int .i64 0,.int .i64 0,.slice none 0 0,.slice none 0 0,.int .i64 0,.int .i64 0,.slice none 0 0,.slice none 0 0,.slice none 0 0,.slice none 0 0,.slice none 0 0,.slice none 0 0,.int .i64 0,.int .i64 0,.int .i64 0,.int .i64 0,.int .i64 0,.int .i64 0]
abbrev zz7:List Value:=[.slice none 0 0,.slice none 0 0,.int .i64 0,.int .i64 0,.slice none 0 0,.slice none 0 0,.int .i64 0,.int .i64 0,.slice none 0 0,.slice none 0 0,.slice none 0 0,.slice none 0 0,.slice none 0 0]
abbrev zz8:List Value:=[.slice none 0 0,.slice none 0 0,.slice none 0 0,.int .i64 0,.int .i64 0,.slice none 0 0]
abbrev zz9:List Value:=[.slice none 0 0]
abbrev pt (n:Nat):Value:= .pointer (some ⟨n,0,none⟩)
abbrev pC (n:Nat)(l:List Value)(t:TypeId):HP:=pto n (.cells l.toArray t (0,0))
abbrev CF (G:World)(n:Nat)(a:List Value)(q:List HP)(R:Wx.Uc):=CallF Tryz.prog G n a q R
abbrev tN:=Tr.n none
abbrev tI (d:TD):=Tr.n (some (.mk d false 1 none))
def tP:List (Nat×Nat)->Nat->List (Nat×Nat)
 |[],_=>[]
 |[(_,o)],n=>[(o,n-o)]
 |(_,o)::(t,u)::r,n=>(o,u-o)::tP ((t,u)::r) n
abbrev tS (l:List (Nat×Nat))(n:Nat)(z:List Value):=Tr.n (some (.mk (.strct l) true n (some (tP l n,z))))
def tbl : Tr := (tN (tN (tI (.int .i64) (tN (tN (tN (tS [(3,0),(3,1),(4,2),(43,3),(60,4),(4,5),(2,6),(2,7),(61,8)] 9 zz0 (tS [(121,0),(122,1),(123,2),(22,3),(124,4),(125,5),(45,6),(2,10)] 11 [.pointer none,.pointer none,.map none,.slice none 0 0,.pointer none,.slice none 0 0,.int .i64 0,.int .i64 0,.int .i64 0,.int .i64 0,.int .i64 0] .e .e) .e) (tN (tI (.int .i64) .e .e) .e)) (tS [(33,0),(41,1),(45,2)] 6 [.int .u32 0,.slice none 0 0,.int .i64 0,.int .i64 0,.int .i64 0,.int .i64 0] (tN (tI (.int .i64) .e .e) .e) (tN (tN (tI (.int .i64) .e .e) .e) .e))) (tI (.slc 3) (tN (tN .e (tN (tI (.slc 332) .e .e) (tI .other .e .e))) .e) (tN (tN .e (tS [(121,0),(211,1),(213,2),(23,3),(3,4)] 5 [.pointer none,.map none,.slice none 0 0,.slice none 0 0,.int .i64 0] (tI .fn .e .e) .e)) (tN .e (tS [(4,0),(23,1),(244,2),(245,3)] 4 [.bool false,.slice none 0 0,.slice none 0 0,.slice none 0 0] .e .e))))) (tN (tN (tN (tN (tI (.int .i64) .e .e) .e) .e) (tN (tN (tS [(3,0),(143,1),(145,2),(23,6)] 7 [.int .i64 0,.int .i64 0,.int .i64 0,.int .i64 0,.slice none 0 0,.slice none 0 0,.slice none 0 0] .e .e) (tI .other .e .e)) .e)) (tS [(25,0),(25,1),(25,2),(25,3),(25,4)] 5 [.slice none 0 0,.slice none 0 0,.slice none 0 0,.slice none 0 0,.slice none 0 0] (tI (.int .i64) .e (tI (.slc 224) .e (tN (tS [] 0 [] .e .e) .e))) (tS [(54,0),(47,1),(3,7),(3,8),(3,9),(4,10)] 11 [.pointer none,.int .u32 0,.slice none 0 0,.int .i64 0,.int .i64 0,.int .i64 0,.int .i64 0,.int .i64 0,.int .i64 0,.int .i64 0,.bool false] (tN (tN .e (tI (.slc 3) .e .e)) .e) (tI .other .e (tS [(249,0),(3,1),(3,2)] 3 [.slice none 0 0,.int .i64 0,.int .i64 0] .e .e)))))) (tI (.int .u8) (tI .str (tN (tI (.int .u32) (tN .e (tN (tS [(9,0),(3,1),(3,2)] 3 [.string ⟨#[]⟩,.int .i64 0,.int .i64 0] .e .e) .e)) (tN (tS [(159,0),(3,1),(3,2)] 3 [.int .i64 0,.int .i64 0,.int .i64 0] .e .e) (tN (tI .fn .e .e) .e))) (tS [(3,0),(3,1)] 2 zz4 (tN (tS [(3,0),(3,1),(22,2),(22,3)] 4 [.int .i64 0,.int .i64 0,.slice none 0 0,.slice none 0 0] .e .e) .e) (tN (tN (tS [(303,0),(104,1),(9,3),(2,4),(128,5)] 6 [.int .i64 0,.int .i64 0,.int .i64 0,.string ⟨#[]⟩,.int .i64 0,.slice none 0 0] .e .e) .e) .e))) (tI (.slc 9) (tI (.slc 49) (tN (tN .e (tS [(121,0),(3,1),(3,2)] 3 [.pointer none,.int .i64 0,.int .i64 0] .e .e)) (tN (tS [(121,0),(22,1),(124,2),(327,3),(45,4)] 8 [.pointer none,.slice none 0 0,.pointer none,.slice none 0 0,.int .i64 0,.int .i64 0,.int .i64 0,.int .i64 0] .e .e) (tS [(454,0),(455,1)] 2 [.map none,.map none] .e .e))) (tN (tN (tI (.slc 310) .e .e) .e) .e)) (tN (tN .e (tN (tI (.int .u64) .e .e) .e)) (tI .ptr .e (.n (some (.mk (.strct [(22,0)]) true 1 none)) .e .e))))) (tN (tN (tN (tN (tI (.int .i64) .e .e) (tI (.slc 305) .e (.n (some (.mk .other true 70 none)) .e .e))) .e) (tN (tN .e (tI (.slc 222) .e (.n (some (.mk .other true 70 none)) .e .e))) (tN (tS [(127,0),(3,11),(130,12),(63,13)] 22 [.pointer none,.pointer none,.map none,.slice none 0 0,.pointer none,.slice none 0 0,.int .i64 0,.int .i64 0,.int .i64 0,.int .i64 0,.int .i64 0,.int .i64 0,.pointer none,.int .i64 0,.int .i64 0,.bool false,.int .i64 0,.slice none 0 0,.bool false,.int .i64 0,.int .i64 0,.slice none 0 0] .e .e) (tI (.slc 251) .e .e)))) (tS [(22,0),(23,1),(3,2),(3,3),(23,4),(24,5),(3,6),(3,7),(27,8)] 13 zz7 (tS [(42,0),(43,1),(3,2),(3,3)] 4 zz1 .e (tS [(22,0),(23,1),(23,2),(3,3),(3,4),(107,5)] 6 zz8 .e .e)) (tI (.slc 161) .e (tI (.slc 147) (tN (tI (.slc 128) .e .e) .e) .e)))))) (tI (.int .i64) (tI .bool (tN (tN (tN (tN (tI (.slc 138) .e .e) .e) (tI (.slc 47) .e (tS [(9,0),(3,1),(213,2),(23,3)] 4 [.string ⟨#[]⟩,.int .i64 0,.slice none 0 0,.slice none 0 0] .e .e))) (tN .e (tN (tI .fn .e .e) .e))) (tI (.slc 218) (tN (tN (tS [(132,0),(2,1),(9,2),(3,3),(4,4),(133,5),(134,6)] 7 zz3 .e .e) .e) (tS [(3,0),(3,1)] 2 zz4 .e .e)) (tN (tI (.slc 5) .e .e) .e))) (tN (tI .ifc (tN (tN (tI (.int .i64) .e .e) (tN .e (tS [(9,0),(3,1)] 2 [.string ⟨#[]⟩,.int .i64 0] .e .e))) (tI .fn (tS [(3,0),(143,1),(22,2),(3,3),(23,4)] 5 [.int .i64 0,.int .i64 0,.slice none 0 0,.int .i64 0,.slice none 0 0] .e .e) (tS [(88,0)] 1 zz9 (tI .ptr .e .e) .e))) (tN (tN (tN (tS [(274,0)] 1 zz9 .e .e) .e) (tN (tI .fn .e .e) (tS [(3,0),(3,1)] 2 zz4 .e .e))) (tS [(47,0),(54,6),(3,7),(3,8),(3,9),(4,10),(3,11)] 12 [.int .u32 0,.slice none 0 0,.int .i64 0,.int .i64 0,.int .i64 0,.int .i64 0,.pointer none,.int .i64 0,.int .i64 0,.int .i64 0,.bool false,.int .i64 0] (tN (tI (.int .i64) .e .e) .e) (tI (.slc 268) .e .e)))) (tN (tN (tN (tN (.n (some (.mk (.strct [(266,0)]) true 1 none)) .e .e) .e) (tN (tS [(3,0),(143,1),(22,2),(330,3),(23,4)] 5 [.int .i64 0,.int .i64 0,.slice none 0 0,.slice none 0 0,.slice none 0 0] .e .e) .e)) .e) (tI (.slc 158) (tN (tN (tS [(43,0)] 1 zz5 .e .e) .e) (tI (.int .i64) .e .e)) (tI .ptr (tN (tS [(29,0),(314,13),(2,14),(3,15),(3,16),(104,17),(3,19)] 20 zz6 .e .e) .e) .e))))) (tN (tN (tN (tI (.int .i64) (tN (tI .ptr .e .e) (tS [(47,0),(3,6),(3,7),(3,8)] 9 [.int .u32 0,.slice none 0 0,.int .i64 0,.int .i64 0,.int .i64 0,.int .i64 0,.int .i64 0,.int .i64 0,.int .i64 0] .e .e)) (tN .e (tI .ptr .e .e))) (tI (.slc 63) (tN (tN (tS [(88,0)] 1 zz9 .e .e) (tI .fn .e .e)) (tI .ptr .e .e)) .e)) (tN (tI (.int .i64) (tN (tS [(131,0),(104,1),(9,3),(9,4),(136,5),(136,12),(128,19),(128,20),(3,21),(3,22),(3,23),(4,24)] 25 zz2 (.n (some (.mk (.strct [(23,0)]) true 1 none)) .e .e) .e) (tN (tI (.slc 130) .e .e) .e)) (tN .e (tN (tS [] 0 [] .e .e) .e))) (tN (tN (tN .e (tI .ptr .e .e)) (tS [(9,0),(3,1),(128,2)] 3 [.string ⟨#[]⟩,.int .i64 0,.slice none 0 0] .e .e)) (tI .ptr (tN (tI (.slc 321) .e .e) .e) .e)))) (tN (tI (.slc 2) (tN (tN (tI (.slc 136) .e .e) (tN .e (tI .other .e .e))) (tN (tN (tS [(34,0)] 1 zz5 .e .e) .e) (tS [(228,0)] 1 zz9 .e (tS [] 0 [] .e .e)))) (tI .ptr .e (tS [(116,0)] 12 [.int .u32 0,.slice none 0 0,.int .i64 0,.int .i64 0,.int .i64 0,.int .i64 0,.pointer none,.int .i64 0,.int .i64 0,.int .i64 0,.bool false,.int .i64 0] (tN (tS [(308,0),(9,1),(2,2),(104,3)] 5 [.int .i64 0,.string ⟨#[]⟩,.int .i64 0,.int .i64 0,.int .i64 0] .e .e) .e) .e))) (tN (tN (tI .ptr .e (tN .e (tI .fn .e .e))) (tN (tN (tS [(297,0),(3,1),(4,2)] 3 [.slice none 0 0,.int .i64 0,.bool false] .e .e) .e) .e)) (tN (tN (tS [(3,0),(4,1),(2,2)] 3 [.int .i64 0,.bool false,.int .i64 0] .e .e) (tS [(220,0),(3,1),(3,2),(2,3)] 4 zz1 (tS [(9,0),(4,1),(4,2),(4,3)] 4 [.string ⟨#[]⟩,.bool false,.bool false,.bool false] .e .e) .e)) (tN (tN .e (.n (some (.mk .other true 12 none)) .e .e)) .e)))))))
section
variable {P:Program}{t:Nat}
def ex_p (h:(match P.underlying t with|some (.pointer _)=>true|_=>false)=true):TD.ptr.ok P t:=by split at h;exact ⟨_,‹_›⟩;cases h
def ex_f (h:(match P.underlying t with|some (.func _ _ _)=>true|_=>false)=true):TD.fn.ok P t:=by split at h;exact ⟨_,_,_,‹_›⟩;cases h
def ex_i (h:(match P.underlying t with|some (.interface _)=>true|_=>false)=true):TD.ifc.ok P t:=by split at h;exact ⟨_,‹_›⟩;cases h
def ex_o (h:(match P.underlying t with|some (.interface _)=>false|none=>false|_=>true)=true):TD.other.ok P t:=by
 unfold TD.ok;split at h;cases h;cases h;cases h2:P.underlying t;simp_all;rename_i D;exact ⟨D,rfl,by cases D<;>simp_all⟩
def ex_s (h:(match P.underlying t with|some (.struct fs)=>some (fs.toList.map fun F=>(F.type,F.offset))|_=>none)=some l):(TD.strct l).ok P t:=by split at h;exact ⟨_,‹_›,dR h⟩;cases h
def ex_b (h:(match P.underlying t with|some (.struct fs)=>fs.toList.mapM (fun f=>(P.info? f.type).map fun i=>(f.offset,i.size))|_=>none)=some l): ∃ fs,P.underlying t=some (.struct fs)/\fs.toList.mapM (fun f=>(P.info? f.type).map fun i=>(f.offset,i.size))=some l:=by split at h;exact ⟨_,‹_›,h⟩;cases h
end
def Um:tbl.ok Tryz.prog id:=by
 repeat' first|exact trivial|(intro w;kernel_rfl)|(refine Eq.trans rfl ?_;kernel_rfl)|refine And.intro ?_ ?_|refine ex_p ?_|refine ex_f ?_|refine ex_i ?_|refine ex_o ?_|refine ex_s ?_|refine ex_b ?_
section
variable {G:World}{f:Fc}{Q:Yp}{k k':List Item}{p':PE}{c:List Prop}{ds:List Deferred}{cs:List Frame}{ops l ops' l':List Oper}{pk:PE}{n':Nat}{done done':List Nat}
def xx (m:Nat)(K:X prog G f Q k' p' ds cs q)(h:stn tbl f.n m .code k p []=some ⟨.code,k',p',c⟩:=by exact rfl)(hc:Jm c:=by repeat (first|exact trivial|refine Wf (by first|omega|(simp;done)|(simp;omega)) ?_)):X prog G f Q k p ds cs q:=stXX Um m h hc K
def xo (m:Nat)(K:XO prog G f Q ops'.toArray k' l' p' ds cs q)(h:stn tbl f.n m .code k p []=some ⟨.ops ops' l',k',p',c⟩:=by exact rfl)(hc:Jm c:=by repeat (first|exact trivial|refine Wf (by first|omega|(simp;done)|(simp;omega)) ?_)):X prog G f Q k p ds cs q:=stXO Um m h hc K
def ox (m:Nat)(K:X prog G f Q k' p' ds cs q)(h:stn tbl f.n m (.ops ops l) k p []=some ⟨.code,k',p',c⟩:=by exact rfl)(hc:Jm c:=by repeat (first|exact trivial|refine Wf (by first|omega|(simp;done)|(simp;omega)) ?_)):XO prog G f Q ops.toArray k l p ds cs q:=stOX Um m h hc K
def oo (m:Nat)(K:XO prog G f Q ops'.toArray k' l' p' ds cs q)(h:stn tbl f.n m (.ops ops l) k p []=some ⟨.ops ops' l',k',p',c⟩:=by exact rfl)(hc:Jm c:=by repeat (first|exact trivial|refine Wf (by first|omega|(simp;done)|(simp;omega)) ?_)):XO prog G f Q ops.toArray k l p ds cs q:=stOO Um m h hc K
def dd (is:List Nat)(K:XD prog G f Q ops k pk L n' done' p' ds cs q)(h:sdn tbl f.n ops is n done p []=some ⟨n',done',p',c⟩:=by exact rfl)(hc:Jm c:=by repeat (first|exact trivial|refine Wf (by first|omega|(simp;done)|(simp;omega)) ?_)):XD prog G f Q ops k pk L n done p ds cs q:=stDD Um is h hc K
variable {rest:List Oper}{d:Tmp}{t ty:TypeId}{pos:String}{af:Array Edge}{gd:Option (Nat×Bool)}{x y:Operand}{l vs:List Value}{t':TypeId}{r:List HP}
def ld (K:XO prog G f Q ops.toArray k rest ((d,v)::p) ds cs q)(hx:evp p x=some (.pointer (some A)):=by rfl)(hc:Cl q A v:=by exact clA)
 (hw:Wt ops p ⟨some d,.load t x,ty,pos,af,gd⟩=some true:=by rfl) (hd:Nat.blt d f.n=true:=by rfl) (ht:tbl.lf t=true:=by rfl):
 XO prog G f Q ops.toArray k (⟨some d,.load t x,ty,pos,af,gd⟩::rest) p ds cs q:= .ld (Iy Um ht) K hx hc hw hd
def ldA (K:XO prog G f Q ops.toArray k rest ((d,.agg (Wx.sub l o sz).toArray)::p) ds cs q)(ht:tbl.ag t=some sz:=by rfl)(hx:evp p x=some (.pointer (some ⟨b,o,none⟩)):=by rfl)(hh:Has q b (.cells l.toArray t' fz):=by exact V2)(hv:Nat.ble (o+sz) l.length=true:=by rfl)
 (hw:Wt ops p ⟨some d,.load t x,ty,pos,af,gd⟩=some true:=by rfl) (hd:Nat.blt d f.n=true:=by rfl):
 XO prog G f Q ops.toArray k (⟨some d,.load t x,ty,pos,af,gd⟩::rest) p ds cs q:= .ldA (Hr Um ht).1 (Hr Um ht).2 K hx hh hv hw hd
def ldD (i:Nat)(K:XD prog G f Q ops k pk ((i,b,o,v)::L) n (i::done) ((d,v)::p) ds cs q)
 (ho:ops[i]? =some ⟨some d,.load t x,ty,pos,af,gd⟩:=by rfl) (hx:evp p x=some (.pointer (some ⟨b,o,none⟩)):=by rfl) (hc:Cl q ⟨b,o,none⟩ v:=by exact clA)
 (hr:rdy ops done i=true:=by rfl) (hw:Wt ops p ⟨some d,.load t x,ty,pos,af,gd⟩=some true:=by rfl) (hd:Nat.blt d f.n=true:=by rfl) (ht:tbl.lf t=true:=by rfl):XD prog G f Q ops k pk L (n+1) done p ds cs q:= .ld i (Iy Um ht) K ho hx hc hr hw hd
def ldAD (i:Nat)(K:XD prog G f Q ops k pk (rdA i b o (Wx.sub l o sz)++L) n (i::done) ((d,.agg (Wx.sub l o sz).toArray)::p) ds cs q)
 (ho:ops[i]? =some ⟨some d,.load t x,ty,pos,af,gd⟩:=by rfl) (ht:tbl.ag t=some sz:=by rfl) (hx:evp p x=some (.pointer (some ⟨b,o,none⟩)):=by rfl) (hh:Has q b (.cells l.toArray t' fz):=by exact V2) (hv:Nat.ble (o+sz) l.length=true:=by rfl)
 (hr:rdy ops done i=true:=by rfl) (hw:Wt ops p ⟨some d,.load t x,ty,pos,af,gd⟩=some true:=by rfl) (hd:Nat.blt d f.n=true:=by rfl):XD prog G f Q ops k pk L (n+1) done p ds cs q:= .loadA i ho hx (Hr Um ht).1 (Hr Um ht).2 hh hv K hr hw hd
def st (K:XO prog G f Q ops.toArray k rest p ds cs (pto b (.cells (Ku l o v).toArray t' (0,0))::r))(hx:evp p x=some (.pointer (some ⟨b,o,none⟩)):=by rfl)(hy:evp p y=some v:=by rfl)
 (hv:v.cells= #[v]:=by rfl) (h1:v.oneCell'=true:=by rfl) (hq:Le q (pto b (.cells l.toArray t' (0,0))::r):=by exact Zj) (ho:Nat.blt o l.length=true:=by rfl)
 (hw:Wt ops p ⟨none,.store t x y,ty,pos,af,gd⟩=some true:=by rfl) (hs:tbl.s1 t=true:=by rfl):XO prog G f Q ops.toArray k (⟨none,.store t x y,ty,pos,af,gd⟩::rest) p ds cs q:= .st Um hs K hx hy hv h1 hq ho hw
def stA (K:XO prog G f Q ops.toArray k rest p ds cs (pto b (.cells (Uw l o vs).toArray t' (0,0))::r))(hs:tbl.ag t=some sz:=by rfl)(hx:evp p x=some (.pointer (some ⟨b,o,none⟩)):=by rfl)(hy:evp p y=some (.agg vs.toArray):=by rfl)
 (hl:vs.length=sz:=by rfl) (h1:vs.all (·.oneCell')=true:=by rfl) (hq:Le q (pto b (.cells l.toArray t' (0,0))::r):=by exact Zj) (ho:Nat.ble (o+sz) l.length=true:=by rfl)
 (hw:Wt ops p ⟨none,.store t x y,ty,pos,af,gd⟩=some true:=by rfl):XO prog G f Q ops.toArray k (⟨none,.store t x y,ty,pos,af,gd⟩::rest) p ds cs q:= .stA Um hs K hx hy hl h1 hq ho hw
def stD (i:Nat)(K:XD prog G f Q ops k pk (cut ⟨none,.store t x y,ty,pos,af,gd⟩ L) n (i::done) p ds cs (pto b (.cells (Ku l o v).toArray t' (0,0))::r))
 (ho:ops[i]? =some ⟨none,.store t x y,ty,pos,af,gd⟩:=by rfl) (hx:evp p x=some (.pointer (some ⟨b,o,none⟩)):=by rfl) (hy:evp p y=some v:=by rfl)
 (hv:v.cells= #[v]:=by rfl) (h1:v.oneCell'=true:=by rfl) (hq:Le q (pto b (.cells l.toArray t' (0,0))::r):=by exact Zj) (ho2:Nat.blt o l.length=true:=by rfl)
 (hh:HL (pto b (.cells (Ku l o v).toArray t' (0,0))::r) (cut ⟨none,.store t x y,ty,pos,af,gd⟩ L):=by exact hlA)
 (h2:Ut ops done i=true:=by rfl) (hr:rdy ops done i=true:=by rfl) (hw:Wt ops p ⟨none,.store t x y,ty,pos,af,gd⟩=some true:=by rfl) (hs:tbl.s1 t=true:=by rfl):XD prog G f Q ops k pk L (n+1) done p ds cs q:= .st i Um hs K ho hx hy hv h1 hq ho2 hh h2 hr hw
def stAD (i:Nat)(K:XD prog G f Q ops k pk (cut ⟨none,.store t x y,ty,pos,af,gd⟩ L) n (i::done) p ds cs (pto b (.cells (Uw l o vs).toArray t' (0,0))::r))
 (ho:ops[i]? =some ⟨none,.store t x y,ty,pos,af,gd⟩:=by rfl) (hs:tbl.ag t=some sz:=by rfl) (hx:evp p x=some (.pointer (some ⟨b,o,none⟩)):=by rfl) (hy:evp p y=some (.agg vs.toArray):=by rfl)
 (hl:vs.length=sz:=by rfl) (h1:vs.all (·.oneCell')=true:=by rfl) (hq:Le q (pto b (.cells l.toArray t' (0,0))::r):=by exact Zj) (ho2:Nat.ble (o+sz) l.length=true:=by rfl)
 (hh:HL (pto b (.cells (Uw l o vs).toArray t' (0,0))::r) (cut ⟨none,.store t x y,ty,pos,af,gd⟩ L):=by exact hlA)
 (h2:Ut ops done i=true:=by rfl) (hr:rdy ops done i=true:=by rfl) (hw:Wt ops p ⟨none,.store t x y,ty,pos,af,gd⟩=some true:=by rfl):XD prog G f Q ops k pk L (n+1) done p ds cs q:= .stA i Um hs K ho hx hy hl h1 hq ho2 hh h2 hr hw
def rsL {t:Nat}{l}{t'}(hh:Has q b (.cells l.toArray t' fz))(ht:tbl.ag t=some sz)(hv:Nat.ble (o+sz) l.length=true):LV Tryz.prog G q t ⟨b,o,none⟩ (.agg (Wx.sub l o sz).toArray):=LV.agg (Hr Um ht).1 (Hr Um ht).2 hh hv
def rA_ {a0 b0 o0:Nat}{l0}{u0}(h:fd.results= [.cell a0 t0].toArray)(p0:lkp p a0=some (.pointer (some ⟨b0,o0,none⟩)):=by rfl)(h0:Has q b0 (.cells l0.toArray u0 f0):=by exact V2)(t_0:tbl.ag t0=some z0:=by rfl)(v_0:Nat.ble (o0+z0) l0.length=true:=by rfl)(tm:Array Value)(w:World)(ag:Agr tm p)(s:St G w q):(results fd tm).run Tryz.prog w= .ok (.agg (Wx.sub l0 o0 z0).toArray) w:=Lf h (eD p0 (rsL h0 t_0 v_0) fM) tm w ag s
def rAA_ {a0 b0 o0:Nat}{l0}{u0}{u1}(h:fd.results= [.cell a0 t0,.cell a1 t1].toArray)(p0:lkp p a0=some (.pointer (some ⟨b0,o0,none⟩)):=by rfl)(h0:Has q b0 (.cells l0.toArray u0 f0):=by exact V2)(t_0:tbl.ag t0=some z0:=by rfl)(v_0:Nat.ble (o0+z0) l0.length=true:=by rfl)(p1:lkp p a1=some (.pointer (some ⟨b1,o1,none⟩)):=by rfl)(h1:Has q b1 (.cells l1.toArray u1 f1):=by exact V2)(t_1:tbl.ag t1=some z1:=by rfl)(v_1:Nat.ble (o1+z1) l1.length=true:=by rfl)(tm:Array Value)(w:World)(ag:Agr tm p)(s:St G w q):(results fd tm).run Tryz.prog w= .ok ((.tuple [.agg (Wx.sub l0 o0 z0).toArray,.agg (Wx.sub l1 o1 z1).toArray].toArray)) w:=X8 h (eD p0 (rsL h0 t_0 v_0) (eD p1 (rsL h1 t_1 v_1) fM)) tm w ag s
def rAT_ {a0 b0 o0:Nat}{l0}{u0}(h:fd.results= [.cell a0 t0,.tmp a1].toArray)(p0:lkp p a0=some (.pointer (some ⟨b0,o0,none⟩)):=by rfl)(h0:Has q b0 (.cells l0.toArray u0 f0):=by exact V2)(t_0:tbl.ag t0=some z0:=by rfl)(v_0:Nat.ble (o0+z0) l0.length=true:=by rfl)(p1:lkp p a1=some v1:=by rfl)(tm:Array Value)(w:World)(ag:Agr tm p)(s:St G w q):(results fd tm).run Tryz.prog w= .ok ((.tuple [.agg (Wx.sub l0 o0 z0).toArray,v1].toArray)) w:=X8 h (eD p0 (rsL h0 t_0 v_0) (kE p1 fM)) tm w ag s
def rAAT_ {a0 b0 o0:Nat}{l0}{u0}{u1}(h:fd.results= [.cell a0 t0,.cell a1 t1,.tmp a2].toArray)(p0:lkp p a0=some (.pointer (some ⟨b0,o0,none⟩)):=by rfl)(h0:Has q b0 (.cells l0.toArray u0 f0):=by exact V2)(t_0:tbl.ag t0=some z0:=by rfl)(v_0:Nat.ble (o0+z0) l0.length=true:=by rfl)(p1:lkp p a1=some (.pointer (some ⟨b1,o1,none⟩)):=by rfl)(h1:Has q b1 (.cells l1.toArray u1 f1):=by exact V2)(t_1:tbl.ag t1=some z1:=by rfl)(v_1:Nat.ble (o1+z1) l1.length=true:=by rfl)(p2:lkp p a2=some v2:=by rfl)(tm:Array Value)(w:World)(ag:Agr tm p)(s:St G w q):(results fd tm).run Tryz.prog w= .ok ((.tuple [.agg (Wx.sub l0 o0 z0).toArray,.agg (Wx.sub l1 o1 z1).toArray,v2].toArray)) w:=X8 h (eD p0 (rsL h0 t_0 v_0) (eD p1 (rsL h1 t_1 v_1) (kE p2 fM))) tm w ag s
def Zyo {a0:Nat}{v0}{u1}(h:fd.results= [.tmp a0,.cell a1 t1,.tmp a2].toArray)(p0:lkp p a0=some v0:=by rfl)(p1:lkp p a1=some (.pointer (some ⟨b1,o1,none⟩)):=by rfl)(h1:Has q b1 (.cells l1.toArray u1 f1):=by exact V2)(t_1:tbl.ag t1=some z1:=by rfl)(v_1:Nat.ble (o1+z1) l1.length=true:=by rfl)(p2:lkp p a2=some v2:=by rfl)(tm:Array Value)(w:World)(ag:Agr tm p)(s:St G w q):(results fd tm).run Tryz.prog w= .ok ((.tuple [v0,.agg (Wx.sub l1 o1 z1).toArray,v2].toArray)) w:=X8 h (kE p0 (eD p1 (rsL h1 t_1 v_1) (kE p2 fM))) tm w ag s
def D7 {a0 b0 o0:Nat}{l0}{u0}(h:fd.results= [.cell a0 t0,.tmp a1,.tmp a2].toArray)(p0:lkp p a0=some (.pointer (some ⟨b0,o0,none⟩)):=by rfl)(h0:Has q b0 (.cells l0.toArray u0 f0):=by exact V2)(t_0:tbl.ag t0=some z0:=by rfl)(v_0:Nat.ble (o0+z0) l0.length=true:=by rfl)(p1:lkp p a1=some v1:=by rfl)(p2:lkp p a2=some v2:=by rfl)(tm:Array Value)(w:World)(ag:Agr tm p)(s:St G w q):(results fd tm).run Tryz.prog w= .ok ((.tuple [.agg (Wx.sub l0 o0 z0).toArray,v1,v2].toArray)) w:=X8 h (eD p0 (rsL h0 t_0 v_0) (kE p1 (kE p2 fM))) tm w ag s
def xp {t}{z}(s:Nat)(ht:φ->X Tryz.prog G f Q z ((s,.bool true)::p) ds cs q)(hf:ψ->X Tryz.prog G f Q z ((s,.bool false)::p) ds cs q)(h:lkp p s=some (.bool t):=by rfl)(e1:t=true->φ:=by intro h;exact sp h)(e2:t=false->ψ:=by intro h;exact sp h):X Tryz.prog G f Q z p ds cs q:= .part s h (fun a=>ht (e1 a)) (fun a=>hf (e2 a))
def kx {k1 k2}{b1}(s m:Nat)(K:X Tryz.prog G f Q k2 p2 ds cs q)(h:lkp p1 s=some (.bool b1):=by rfl)(e:b1=false:=by exact kw)(h2:stn tbl f.n m .code k1 ((s,.bool false)::p1) []=some ⟨.code,k2,p2,c1⟩:=by exact rfl)(hc:Jm c1:=by repeat (first|exact trivial|refine Wf (by first|omega|(simp;done)|(simp;omega)) ?_)):X Tryz.prog G f Q k1 p1 ds cs q:=Wc s (xx m K h2 hc) h e
def ol {o1 l1}{k1 k2}{t1 ty1}(m:Nat)(K:XO Tryz.prog G f Q o2.toArray k2 r2 ((d1,v1)::p2) ds cs q)(h:stn tbl f.n m (.ops o1 l1) k1 p1 []=some ⟨.ops o2 (⟨some d1,.load t1 x1,ty1,ps1,af1,gd1⟩::r2),k2,p2,c1⟩:=by exact rfl)(hc0:Jm c1:=by repeat (first|exact trivial|refine Wf (by first|omega|(simp;done)|(simp;omega)) ?_))(hx:evp p2 x1=some (.pointer (some A1)):=by rfl)(hc:Cl q A1 v1:=by exact clA)(hw:Wt o2 p2 ⟨some d1,.load t1 x1,ty1,ps1,af1,gd1⟩=some true:=by rfl)(hd:Nat.blt d1 f.n=true:=by rfl)(ht:tbl.lf t1=true:=by rfl):XO Tryz.prog G f Q o1.toArray k1 l1 p1 ds cs q:=oo m (ld K hx hc hw hd ht) h hc0
def xj {k1 k2}{t1 ty1}(m:Nat)(K:XO Tryz.prog G f Q o2.toArray k2 r2 ((d1,v1)::p2) ds cs q)(h:stn tbl f.n m .code k1 p1 []=some ⟨.ops o2 (⟨some d1,.load t1 x1,ty1,ps1,af1,gd1⟩::r2),k2,p2,c1⟩:=by exact rfl)(hc0:Jm c1:=by repeat (first|exact trivial|refine Wf (by first|omega|(simp;done)|(simp;omega)) ?_))(hx:evp p2 x1=some (.pointer (some A1)):=by rfl)(hc:Cl q A1 v1:=by exact clA)(hw:Wt o2 p2 ⟨some d1,.load t1 x1,ty1,ps1,af1,gd1⟩=some true:=by rfl)(hd:Nat.blt d1 f.n=true:=by rfl)(ht:tbl.lf t1=true:=by rfl):X Tryz.prog G f Q k1 p1 ds cs q:=xo m (ld K hx hc hw hd ht) h hc0
def dl {n0}{dn0 dn1}{t1 ty1}{s1}(is:List Nat)(i:Nat)(K:XD Tryz.prog G f Q ops k pk ((i,b1,s1,v1)::L) n1 (i::dn1) ((d1,v1)::p2) ds cs q)(h:sdn tbl f.n ops is n0 dn0 p1 []=some ⟨n1+1,dn1,p2,c1⟩:=by exact rfl)(hc0:Jm c1:=by repeat (first|exact trivial|refine Wf (by first|omega|(simp;done)|(simp;omega)) ?_))
 (ho:ops[i]? =some ⟨some d1,.load t1 x1,ty1,ps1,af1,gd1⟩:=by rfl) (hx:evp p2 x1=some (.pointer (some ⟨b1,s1,none⟩)):=by rfl) (hc:Cl q ⟨b1,s1,none⟩ v1:=by exact clA) (hr:rdy ops dn1 i=true:=by rfl) (hw:Wt ops p2 ⟨some d1,.load t1 x1,ty1,ps1,af1,gd1⟩=some true:=by rfl) (hd:Nat.blt d1 f.n=true:=by rfl) (ht:tbl.lf t1=true:=by rfl):XD Tryz.prog G f Q ops k pk L n0 dn0 p1 ds cs q:=dd is (ldD i K ho hx hc hr hw hd ht) h hc0
def kk0 {A:List HP->Prop}(K:B V C)(h:A C:=by first|exact trivial|exact hlA): ∀ v q',(v=V/\q'=C)->A q'/\B v q':=by rintro _ _ ⟨rfl,rfl⟩;exact ⟨h,K⟩
def kc0 {A:List HP->Prop}(K:B V M)(e:C++F=M:=by (try simp only [ca,na]);rfl)(h:A M:=by first|exact trivial|exact hlA): ∀ v q',(v=V/\q'=C)-> ∀ q'',q''=q'++F->A q''/\B v q'':=by rintro _ _ ⟨rfl,rfl⟩ _ rfl;rw [e];exact ⟨h,K⟩
def kd0 (K:B V M)(e:C++F=M:=by (try simp only [ca,na]);rfl): ∀ v q',(v=V/\q'=C)-> ∀ q'',q''=q'++F->B v q'':=by rintro _ _ ⟨rfl,rfl⟩ _ rfl;rw [e];exact K
def kd1 {α:Type}{V:α->Value}{C:α->List HP}{M:α->List HP}(K: ∀ a,B (V a) (M a))(e: ∀ a,C a++F=M a:=by intro _;(try simp only [ca,na]);rfl): ∀ v q',(∃ a,v=V a/\q'=C a)-> ∀ q'',q''=q'++F->B v q'':=by rintro _ _ ⟨a,rfl,rfl⟩ _ rfl;rw [e];exact K a
def kk2 {α β:Type}{V:α->β->Value}{C:α->β->List HP}{A:List HP->Prop}(K: ∀ a b,B (V a b) (C a b))(h: ∀ a b,A (C a b):=by intro _ _;first|exact trivial|exact hlA): ∀ v q',(∃ a b,v=V a b/\q'=C a b)->A q'/\B v q':=by rintro _ _ ⟨a,b,rfl,rfl⟩;exact ⟨h a b,K a b⟩
def kd2 {α β:Type}{V:α->β->Value}{C:α->β->List HP}{M:α->β->List HP}(K: ∀ a b,B (V a b) (M a b))(e: ∀ a b,C a b++F=M a b:=by intro _ _;(try simp only [ca,na]);rfl): ∀ v q',(∃ a b,v=V a b/\q'=C a b)-> ∀ q'',q''=q'++F->B v q'':=by rintro _ _ ⟨a,b,rfl,rfl⟩ _ rfl;rw [e];exact K a b
def xsl {c}(s:Nat)(e:a=some A)(K:X Tryz.prog G f Q k ((s,.slice (some A) n c)::p) ds cs q)(h:lkp p s=some (.slice a n c):=by rfl):X Tryz.prog G f Q k p ds cs q:= .know s _ h (by rw [e]) K
def osl {c}{lz}(s:Nat)(e:a=some A)(K:XO Tryz.prog G f Q ops.toArray k lz ((s,.slice (some A) n c)::p) ds cs q)(h:lkp p s=some (.slice a n c):=by rfl):XO Tryz.prog G f Q ops.toArray k lz p ds cs q:= .know s _ h (by rw [e]) K
def dsl {c}(s:Nat)(e:a=some A)(K:XD Tryz.prog G f Q ops k pk L n1 done ((s,.slice (some A) n2 c)::p) ds cs q)(h:lkp p s=some (.slice a n2 c):=by rfl):XD Tryz.prog G f Q ops k pk L n1 done p ds cs q:= .know s _ h (by rw [e]) K
def Tryz.mixed:prog.follows .mixedOrders=true:=by kernel_rfl
def drw {id}(x:XD prog G f Q ops k [] [] ops.length [] p ds cs q)(h1:okR ops=true:=by kernel_rfl)(h2:Pt ops=true:=by kernel_rfl)(h3:Bw ops []=true:=by rfl):X prog G f Q (.code (.region id ops.toArray true)::k) p ds cs q:= .draw [] Tryz.mixed h1 h2 h3 x
structure Bx (B:Prop):Prop where
 g:B
structure Gs (s:List Nat) (A:Prop):Prop where
 g:A
def gs0 {A}(b:Bx A):Gs [] A:=⟨b.g⟩
variable {s0:List Nat}{l0':List Oper}
def r_xx (K:Gs s0 (X prog G f Q k' p' ds cs q))(h:stn tbl f.n (m+1) .code k p []=some ⟨.code,k',p',c⟩:=by exact rfl)(hc:Jm c:=by repeat (first|exact trivial|refine Wf (by first|omega|(simp;done)|(simp;omega)) ?_)):Gs ((m+1)::s0) (X prog G f Q k p ds cs q):=⟨xx (m+1) K.g h hc⟩
def r_xo (K:Gs s0 (XO prog G f Q ops'.toArray k' l0' p' ds cs q))(h:stn tbl f.n (m+1) .code k p []=some ⟨.ops ops' l0',k',p',c⟩:=by exact rfl)(hc:Jm c:=by repeat (first|exact trivial|refine Wf (by first|omega|(simp;done)|(simp;omega)) ?_)):Gs ((m+1)::s0) (X prog G f Q k p ds cs q):=⟨xo (m+1) K.g h hc⟩
def r_ox (K:Gs s0 (X prog G f Q k' p' ds cs q))(h:stn tbl f.n (m+1) (.ops ops l0) k p []=some ⟨.code,k',p',c⟩:=by exact rfl)(hc:Jm c:=by repeat (first|exact trivial|refine Wf (by first|omega|(simp;done)|(simp;omega)) ?_)):Gs ((m+1)::s0) (XO prog G f Q ops.toArray k l0 p ds cs q):=⟨ox (m+1) K.g h hc⟩
def r_oo (K:Gs s0 (XO prog G f Q ops'.toArray k' l0' p' ds cs q))(h:stn tbl f.n (m+1) (.ops ops l0) k p []=some ⟨.ops ops' l0',k',p',c⟩:=by exact rfl)(hc:Jm c:=by repeat (first|exact trivial|refine Wf (by first|omega|(simp;done)|(simp;omega)) ?_)):Gs ((m+1)::s0) (XO prog G f Q ops.toArray k l0 p ds cs q):=⟨oo (m+1) K.g h hc⟩
def Qg (K:Gs s0 (XO prog G f Q ops.toArray k rest ((d,v)::p) ds cs q))(hx:evp p x=some (.pointer (some A)):=by rfl)(hc:Cl q A v:=by exact clA)(hw:Wt ops p ⟨some d,.load t x,ty,pos,af,gd⟩=some true:=by rfl)(hd:Nat.blt d f.n=true:=by rfl)(ht:tbl.lf t=true:=by rfl):Gs (0::s0) (XO prog G f Q ops.toArray k (⟨some d,.load t x,ty,pos,af,gd⟩::rest) p ds cs q):=⟨ld K.g hx hc hw hd ht⟩
def Zya (K:Gs s0 (XO prog G f Q ops.toArray k rest ((d,.agg (Wx.sub l o sz).toArray)::p) ds cs q))(ht:tbl.ag t=some sz:=by rfl)(hx:evp p x=some (.pointer (some ⟨b,o,none⟩)):=by rfl)(hh:Has q b (.cells l.toArray t' fz):=by exact V2)(hv:Nat.ble (o+sz) l.length=true:=by rfl)(hw:Wt ops p ⟨some d,.load t x,ty,pos,af,gd⟩=some true:=by rfl)(hd:Nat.blt d f.n=true:=by rfl):Gs (0::s0) (XO prog G f Q ops.toArray k (⟨some d,.load t x,ty,pos,af,gd⟩::rest) p ds cs q):=⟨ldA K.g ht hx hh hv hw hd⟩
def r_st (K:Gs s0 (XO prog G f Q ops.toArray k rest p ds cs (pto b (.cells (Ku l o v).toArray t' (0,0))::r)))(hx:evp p x=some (.pointer (some ⟨b,o,none⟩)):=by rfl)(hy:evp p y=some v:=by rfl)(hv:v.cells= #[v]:=by rfl)(h1:v.oneCell'=true:=by rfl)(hq:Le q (pto b (.cells l.toArray t' (0,0))::r):=by exact Zj)(ho:Nat.blt o l.length=true:=by rfl)(hw:Wt ops p ⟨none,.store t x y,ty,pos,af,gd⟩=some true:=by rfl)(hs:tbl.s1 t=true:=by rfl):Gs (0::s0) (XO prog G f Q ops.toArray k (⟨none,.store t x y,ty,pos,af,gd⟩::rest) p ds cs q):=⟨st K.g hx hy hv h1 hq ho hw hs⟩
def Zyt (K:Gs s0 (XO prog G f Q ops.toArray k rest p ds cs (pto b (.cells (Uw l o vs).toArray t' (0,0))::r)))(hs:tbl.ag t=some sz:=by rfl)(hx:evp p x=some (.pointer (some ⟨b,o,none⟩)):=by rfl)(hy:evp p y=some (.agg vs.toArray):=by rfl)(hl:vs.length=sz:=by rfl)(h1:vs.all (·.oneCell')=true:=by rfl)(hq:Le q (pto b (.cells l.toArray t' (0,0))::r):=by exact Zj)(ho:Nat.ble (o+sz) l.length=true:=by rfl)(hw:Wt ops p ⟨none,.store t x y,ty,pos,af,gd⟩=some true:=by rfl):Gs (0::s0) (XO prog G f Q ops.toArray k (⟨none,.store t x y,ty,pos,af,gd⟩::rest) p ds cs q):=⟨stA K.g hs hx hy hl h1 hq ho hw⟩
def Zys (K:Gs s0 (XD prog G f Q ops k [] [] ops.length [] p ds cs q))(h1:okR ops=true:=by kernel_rfl)(h2:Pt ops=true:=by kernel_rfl)(h3:Bw ops []=true:=by rfl):Gs (0::s0) (X prog G f Q (.code (.region rid ops.toArray true)::k) p ds cs q):=⟨drw K.g h1 h2 h3⟩
def r_dd (K:Gs s0 (XD prog G f Q ops k pk L n' done' p' ds cs q))(h:sdn tbl f.n ops [i] n done p []=some ⟨n',done',p',c⟩:=by exact rfl)(hc:Jm c:=by repeat (first|exact trivial|refine Wf (by first|omega|(simp;done)|(simp;omega)) ?_)):Gs ((i+1)::s0) (XD prog G f Q ops k pk L n done p ds cs q):=⟨dd [i] K.g h hc⟩
def Vw (K:Gs s0 (XD prog G f Q ops k pk ((i,b,o,v)::L) n (i::done) ((d,v)::p) ds cs q))(ho:ops[i]? =some ⟨some d,.load t x,ty,pos,af,gd⟩:=by rfl)(hx:evp p x=some (.pointer (some ⟨b,o,none⟩)):=by rfl)(hc:Cl q ⟨b,o,none⟩ v:=by exact clA)(hr:rdy ops done i=true:=by rfl)(hw:Wt ops p ⟨some d,.load t x,ty,pos,af,gd⟩=some true:=by rfl)(hd:Nat.blt d f.n=true:=by rfl)(ht:tbl.lf t=true:=by rfl):Gs ((i+1)::s0) (XD prog G f Q ops k pk L (n+1) done p ds cs q):=⟨ldD i K.g ho hx hc hr hw hd ht⟩
def Zqj (K:Gs s0 (XD prog G f Q ops k pk (rdA i b o (Wx.sub l o sz)++L) n (i::done) ((d,.agg (Wx.sub l o sz).toArray)::p) ds cs q))(ho:ops[i]? =some ⟨some d,.load t x,ty,pos,af,gd⟩:=by rfl)(ht:tbl.ag t=some sz:=by rfl)(hx:evp p x=some (.pointer (some ⟨b,o,none⟩)):=by rfl)(hh:Has q b (.cells l.toArray t' fz):=by exact V2)(hv:Nat.ble (o+sz) l.length=true:=by rfl)(hr:rdy ops done i=true:=by rfl)(hw:Wt ops p ⟨some d,.load t x,ty,pos,af,gd⟩=some true:=by rfl)(hd:Nat.blt d f.n=true:=by rfl):Gs ((i+1)::s0) (XD prog G f Q ops k pk L (n+1) done p ds cs q):=⟨ldAD i K.g ho ht hx hh hv hr hw hd⟩
def Zyc (K:Gs s0 (XD prog G f Q ops k pk (cut ⟨none,.store t x y,ty,pos,af,gd⟩ L) n (i::done) p ds cs (pto b (.cells (Ku l o v).toArray t' (0,0))::r)))(ho:ops[i]? =some ⟨none,.store t x y,ty,pos,af,gd⟩:=by rfl)(hx:evp p x=some (.pointer (some ⟨b,o,none⟩)):=by rfl)(hy:evp p y=some v:=by rfl)(hv:v.cells= #[v]:=by rfl)(h1:v.oneCell'=true:=by rfl)(hq:Le q (pto b (.cells l.toArray t' (0,0))::r):=by exact Zj)(ho2:Nat.blt o l.length=true:=by rfl)(hh:HL (pto b (.cells (Ku l o v).toArray t' (0,0))::r) (cut ⟨none,.store t x y,ty,pos,af,gd⟩ L):=by exact hlA)(h2:Ut ops done i=true:=by rfl)(hr:rdy ops done i=true:=by rfl)(hw:Wt ops p ⟨none,.store t x y,ty,pos,af,gd⟩=some true:=by rfl)(hs:tbl.s1 t=true:=by rfl):Gs ((i+1)::s0) (XD prog G f Q ops k pk L (n+1) done p ds cs q):=⟨stD i K.g ho hx hy hv h1 hq ho2 hh h2 hr hw hs⟩
def Zqz (K:Gs s0 (XD prog G f Q ops k pk (cut ⟨none,.store t x y,ty,pos,af,gd⟩ L) n (i::done) p ds cs (pto b (.cells (Uw l o vs).toArray t' (0,0))::r)))(ho:ops[i]? =some ⟨none,.store t x y,ty,pos,af,gd⟩:=by rfl)(hs:tbl.ag t=some sz:=by rfl)(hx:evp p x=some (.pointer (some ⟨b,o,none⟩)):=by rfl)(hy:evp p y=some (.agg vs.toArray):=by rfl)(hl:vs.length=sz:=by rfl)(h1:vs.all (·.oneCell')=true:=by rfl)(hq:Le q (pto b (.cells l.toArray t' (0,0))::r):=by exact Zj)(ho2:Nat.ble (o+sz) l.length=true:=by rfl)(hh:HL (pto b (.cells (Uw l o vs).toArray t' (0,0))::r) (cut ⟨none,.store t x y,ty,pos,af,gd⟩ L):=by exact hlA)(h2:Ut ops done i=true:=by rfl)(hr:rdy ops done i=true:=by rfl)(hw:Wt ops p ⟨none,.store t x y,ty,pos,af,gd⟩=some true:=by rfl):Gs ((i+1)::s0) (XD prog G f Q ops k pk L (n+1) done p ds cs q):=⟨stAD i K.g ho hs hx hy hl h1 hq ho2 hh h2 hr hw⟩
def Zyl (K:Gs s0 (X prog G f Q k p ds cs q))(h:(List.range ops.length).all (done.contains ·)=true:=by rfl):Gs (0::s0) (XD prog G f Q ops k pk L 0 done p ds cs q):=⟨XD.nil K.g h⟩
def r_kf {b}(K:Gs s0 (X prog G f Q k ((s,.bool false)::p) ds cs q))(h:lkp p s=some (.bool b):=by rfl)(e:b=false:=by exact kw):Gs ((s+1000)::s0) (X prog G f Q k p ds cs q):=⟨Wc s K.g h e⟩
def r_kt {b}(K:Gs s0 (X prog G f Q k ((s,.bool true)::p) ds cs q))(h:lkp p s=some (.bool b):=by rfl)(e:b=true:=by exact kw):Gs ((s+2000)::s0) (X prog G f Q k p ds cs q):=⟨iJ s K.g h e⟩
def Zyi {b}(K:Gs s0 (XO prog G f Q ops.toArray k l0 ((s,.bool false)::p) ds cs q))(h:lkp p s=some (.bool b):=by rfl)(e:b=false:=by exact kw):Gs ((s+1000)::s0) (XO prog G f Q ops.toArray k l0 p ds cs q):=⟨Ew s K.g h e⟩
def Zyr {b}(K:Gs s0 (XO prog G f Q ops.toArray k l0 ((s,.bool true)::p) ds cs q))(h:lkp p s=some (.bool b):=by rfl)(e:b=true:=by exact kw):Gs ((s+2000)::s0) (XO prog G f Q ops.toArray k l0 p ds cs q):=⟨XO.kt s K.g h e⟩
def rn {A B}(s:List Nat)(K:B)(h:Bx B->Gs s A:=by intro b;repeat first|exact gs0 b|refine r_kt ?_|refine r_kf ?_|refine Zyr ?_|refine Zyi ?_|refine Qg ?_|refine Zya ?_|refine r_st ?_|refine Zyt ?_|refine Zys ?_|refine Zyl ?_|refine r_xx ?_|refine r_xo ?_|refine r_oo ?_|refine r_ox ?_|refine r_dd ?_|refine Vw ?_|refine Zqj ?_|refine Zyc ?_|refine Zqz ?_):A:=(h ⟨K⟩).g
def Oi {c}(e:a=some A)(K:Gs s0 (X prog G f Q k ((s,.slice (some A) n2 c)::p) ds cs q))(h:lkp p s=some (.slice a n2 c):=by rfl):Gs ((s+3000)::s0) (X prog G f Q k p ds cs q):=⟨xsl s e K.g h⟩
def Ol {c}(e:a=some A)(K:Gs s0 (XO prog G f Q ops.toArray k l0 ((s,.slice (some A) n2 c)::p) ds cs q))(h:lkp p s=some (.slice a n2 c):=by rfl):Gs ((s+3000)::s0) (XO prog G f Q ops.toArray k l0 p ds cs q):=⟨osl s e K.g h⟩
def Oa {c}(e:a=some A)(K:Gs s0 (XD prog G f Q ops k pk L n1 done ((s,.slice (some A) n2 c)::p) ds cs q))(h:lkp p s=some (.slice a n2 c):=by rfl):Gs ((s+3000)::s0) (XD prog G f Q ops k pk L n1 done p ds cs q):=⟨dsl s e K.g h⟩
def rf {A B C:Prop}(s:List Nat)(F:C)(K:B)(h:Bx B->C->Gs s A:=by intro b F;repeat first|exact gs0 b|refine Oi F ?_|refine Ol F ?_|refine Oa F ?_|refine Qg ?_ (hc:=(F.le leA).at rfl Vp)|refine Qg ?_ (hc:=(F.le leA) 0 _ rfl)|refine Qg ?_ (hc:=(F.le leA) _ _ rfl)|refine Qg ?_ (hc:=F _ leA 0 _ rfl)|refine Qg ?_ (hc:=F _ leA _ _ rfl)|refine Vw ?_ (hc:=(F.le leA).at rfl Vp)|refine Vw ?_ (hc:=(F.le leA) 0 _ rfl)|refine Vw ?_ (hc:=(F.le leA) _ _ rfl)|refine Vw ?_ (hc:=F _ leA 0 _ rfl)|refine Vw ?_ (hc:=F _ leA _ _ rfl)|refine r_kt ?_|refine r_kf ?_|refine Zyr ?_|refine Zyi ?_|refine Qg ?_|refine Zya ?_|refine r_st ?_|refine Zyt ?_|refine Zys ?_|refine Zyl ?_|refine r_xx ?_|refine r_xo ?_|refine r_oo ?_|refine r_ox ?_|refine r_dd ?_|refine Vw ?_|refine Zqj ?_|refine Zyc ?_|refine Zqz ?_):A:=(h ⟨K⟩ F).g
def rg {A B C:Prop}(s:List Nat)(F:C)(E:D)(K:B)(h:Bx B->C->D->Gs s A:=by intro b F E;repeat first|exact gs0 b|refine Oi F ?_|refine Ol F ?_|refine Oa F ?_|refine Qg ?_ (hc:=(F.le leA).at rfl Vp)|refine Qg ?_ (hc:=(F.le leA) 0 _ rfl)|refine Qg ?_ (hc:=(F.le leA) _ _ rfl)|refine Qg ?_ (hc:=F _ leA 0 _ rfl)|refine Qg ?_ (hc:=F _ leA _ _ rfl)|refine Vw ?_ (hc:=(F.le leA).at rfl Vp)|refine Vw ?_ (hc:=(F.le leA) 0 _ rfl)|refine Vw ?_ (hc:=(F.le leA) _ _ rfl)|refine Vw ?_ (hc:=F _ leA 0 _ rfl)|refine Vw ?_ (hc:=F _ leA _ _ rfl)|refine Oi E ?_|refine Ol E ?_|refine Oa E ?_|refine Qg ?_ (hc:=(E.le leA).at rfl Vp)|refine Qg ?_ (hc:=(E.le leA) 0 _ rfl)|refine Qg ?_ (hc:=(E.le leA) _ _ rfl)|refine Qg ?_ (hc:=E _ leA 0 _ rfl)|refine Qg ?_ (hc:=E _ leA _ _ rfl)|refine Vw ?_ (hc:=(E.le leA).at rfl Vp)|refine Vw ?_ (hc:=(E.le leA) 0 _ rfl)|refine Vw ?_ (hc:=(E.le leA) _ _ rfl)|refine Vw ?_ (hc:=E _ leA 0 _ rfl)|refine Vw ?_ (hc:=E _ leA _ _ rfl)|refine r_kt ?_|refine r_kf ?_|refine Zyr ?_|refine Zyi ?_|refine Qg ?_|refine Zya ?_|refine r_st ?_|refine Zyt ?_|refine Zys ?_|refine Zyl ?_|refine r_xx ?_|refine r_xo ?_|refine r_oo ?_|refine r_ox ?_|refine r_dd ?_|refine Vw ?_|refine Zqj ?_|refine Zyc ?_|refine Zqz ?_):A:=(h ⟨K⟩ F E).g
def rh {A B C E:Prop}(s:List Nat)(F:C)(E1:D)(E2:E)(K:B)(h:Bx B->C->D->E->Gs s A:=by intro b F E1 E2;repeat first|exact gs0 b|refine Oi F ?_|refine Ol F ?_|refine Oa F ?_|refine Qg ?_ (hc:=(F.le leA).at rfl Vp)|refine Qg ?_ (hc:=(F.le leA) 0 _ rfl)|refine Qg ?_ (hc:=(F.le leA) _ _ rfl)|refine Qg ?_ (hc:=F _ leA 0 _ rfl)|refine Qg ?_ (hc:=F _ leA _ _ rfl)|refine Vw ?_ (hc:=(F.le leA).at rfl Vp)|refine Vw ?_ (hc:=(F.le leA) 0 _ rfl)|refine Vw ?_ (hc:=(F.le leA) _ _ rfl)|refine Vw ?_ (hc:=F _ leA 0 _ rfl)|refine Vw ?_ (hc:=F _ leA _ _ rfl)|refine Oi E1 ?_|refine Ol E1 ?_|refine Oa E1 ?_|refine Qg ?_ (hc:=(E1.le leA).at rfl Vp)|refine Qg ?_ (hc:=(E1.le leA) 0 _ rfl)|refine Qg ?_ (hc:=(E1.le leA) _ _ rfl)|refine Qg ?_ (hc:=E1 _ leA 0 _ rfl)|refine Qg ?_ (hc:=E1 _ leA _ _ rfl)|refine Vw ?_ (hc:=(E1.le leA).at rfl Vp)|refine Vw ?_ (hc:=(E1.le leA) 0 _ rfl)|refine Vw ?_ (hc:=(E1.le leA) _ _ rfl)|refine Vw ?_ (hc:=E1 _ leA 0 _ rfl)|refine Vw ?_ (hc:=E1 _ leA _ _ rfl)|refine Oi E2 ?_|refine Ol E2 ?_|refine Oa E2 ?_|refine Qg ?_ (hc:=(E2.le leA).at rfl Vp)|refine Qg ?_ (hc:=(E2.le leA) 0 _ rfl)|refine Qg ?_ (hc:=(E2.le leA) _ _ rfl)|refine Qg ?_ (hc:=E2 _ leA 0 _ rfl)|refine Qg ?_ (hc:=E2 _ leA _ _ rfl)|refine Vw ?_ (hc:=(E2.le leA).at rfl Vp)|refine Vw ?_ (hc:=(E2.le leA) 0 _ rfl)|refine Vw ?_ (hc:=(E2.le leA) _ _ rfl)|refine Vw ?_ (hc:=E2 _ leA 0 _ rfl)|refine Vw ?_ (hc:=E2 _ leA _ _ rfl)|refine r_kt ?_|refine r_kf ?_|refine Zyr ?_|refine Zyi ?_|refine Qg ?_|refine Zya ?_|refine r_st ?_|refine Zyt ?_|refine Zys ?_|refine Zyl ?_|refine r_xx ?_|refine r_xo ?_|refine r_oo ?_|refine r_ox ?_|refine r_dd ?_|refine Vw ?_|refine Zqj ?_|refine Zyc ?_|refine Zqz ?_):A:=(h ⟨K⟩ F E1 E2).g
structure Gz (A:Prop):Prop where
 g:A
def g_Y1:Y Tryz.prog G f Q .code k p ds cs q=X Tryz.prog G f Q k p ds cs q:=rfl
def g_Y2 :Y Tryz.prog G f Q (.ops ops l0) k p ds cs q=XO Tryz.prog G f Q ops.toArray k l0 p ds cs q:=rfl
def g_cl (h:Cl q A v:=by first|exact fC (by repeat first|exact dV _ _ _|exact iQ _ _ _|refine Has.there ?_) (by rfl)|exact (eR Vp leA) 0 _ rfl|exact (eR Vp leA) _ _ rfl|exact Cl.el Vp leA (fun _=>rfl) (by first|assumption|omega) rfl rfl|exact gF Vp leA (by first|assumption|omega) rfl|exact Cl.el Vp leA (fun _=>rfl) Vp Zq rfl|exact gF Vp leA Vp Zq|exact fC (Has.le Vp leA) rfl|assumption):Cl q A v:=h
def g_hl (h:HL q L:=by repeat first|exact trivial|refine ⟨g_cl,?_⟩):HL q L:=h
def g_x (m:Nat)(K:Gz Z)(h:stn tbl f.n m .code k p []=some ⟨md,k',p',c⟩:=by exact rfl)(hz:Y Tryz.prog G f Q md k' p' ds cs q=Z:=by first|exact g_Y1|exact g_Y2)(hc:Jm c:=by repeat (first|exact trivial|refine Wf (by first|omega|(simp;done)|(simp;omega)) ?_)):Gz (X Tryz.prog G f Q k p ds cs q):=⟨(Ei Um h hc (by rw [hz];exact K.g)).1⟩
def g_o (m:Nat)(K:Gz Z)(h:stn tbl f.n m (.ops ops l0) k p []=some ⟨md,k',p',c⟩:=by exact rfl)(hz:Y Tryz.prog G f Q md k' p' ds cs q=Z:=by first|exact g_Y1|exact g_Y2)(hc:Jm c:=by repeat (first|exact trivial|refine Wf (by first|omega|(simp;done)|(simp;omega)) ?_)):Gz (XO Tryz.prog G f Q ops.toArray k l0 p ds cs q):=⟨(Ei Um h hc (by rw [hz];exact K.g)).1⟩
def g_ld (K:Gz (XO Tryz.prog G f Q ops.toArray k rest ((d,v)::p) ds cs q))(hx:evp p x=some (.pointer (some A)):=by rfl)(hc:Cl q A v:=by exact g_cl)(hw:Wt ops p ⟨some d,.load t x,ty,pos,af,gd⟩=some true:=by rfl)(hd:Nat.blt d f.n=true:=by rfl)(ht:tbl.lf t=true:=by rfl):Gz (XO Tryz.prog G f Q ops.toArray k (⟨some d,.load t x,ty,pos,af,gd⟩::rest) p ds cs q):=⟨ld K.g hx hc hw hd ht⟩
def g_lA (K:Gz (XO Tryz.prog G f Q ops.toArray k rest ((d,.agg (Wx.sub l o sz).toArray)::p) ds cs q))(ht:tbl.ag t=some sz:=by rfl)(hx:evp p x=some (.pointer (some ⟨b,o,none⟩)):=by rfl)(hh:Has q b (.cells l.toArray t' fz):=by exact V2)(hv:Nat.ble (o+sz) l.length=true:=by rfl)(hw:Wt ops p ⟨some d,.load t x,ty,pos,af,gd⟩=some true:=by rfl)(hd:Nat.blt d f.n=true:=by rfl):Gz (XO Tryz.prog G f Q ops.toArray k (⟨some d,.load t x,ty,pos,af,gd⟩::rest) p ds cs q):=⟨ldA K.g ht hx hh hv hw hd⟩
def g_st (K:Gz (XO Tryz.prog G f Q ops.toArray k rest p ds cs (pto b (.cells (Ku l o v).toArray t' (0,0))::r)))(hx:evp p x=some (.pointer (some ⟨b,o,none⟩)):=by rfl)(hy:evp p y=some v:=by rfl)(hv:v.cells= #[v]:=by rfl)(h1:v.oneCell'=true:=by rfl)(hq:Le q (pto b (.cells l.toArray t' (0,0))::r):=by exact Zj)(ho:Nat.blt o l.length=true:=by rfl)(hw:Wt ops p ⟨none,.store t x y,ty,pos,af,gd⟩=some true:=by rfl)(hs:tbl.s1 t=true:=by rfl):Gz (XO Tryz.prog G f Q ops.toArray k (⟨none,.store t x y,ty,pos,af,gd⟩::rest) p ds cs q):=⟨st K.g hx hy hv h1 hq ho hw hs⟩
def g_sA (K:Gz (XO Tryz.prog G f Q ops.toArray k rest p ds cs (pto b (.cells (Uw l o vs).toArray t' (0,0))::r)))(hs:tbl.ag t=some sz:=by rfl)(hx:evp p x=some (.pointer (some ⟨b,o,none⟩)):=by rfl)(hy:evp p y=some (.agg vs.toArray):=by rfl)(hl:vs.length=sz:=by rfl)(h1:vs.all (·.oneCell')=true:=by rfl)(hq:Le q (pto b (.cells l.toArray t' (0,0))::r):=by exact Zj)(ho:Nat.ble (o+sz) l.length=true:=by rfl)(hw:Wt ops p ⟨none,.store t x y,ty,pos,af,gd⟩=some true:=by rfl):Gz (XO Tryz.prog G f Q ops.toArray k (⟨none,.store t x y,ty,pos,af,gd⟩::rest) p ds cs q):=⟨stA K.g hs hx hy hl h1 hq ho hw⟩
def g_kt (K:Gz (X Tryz.prog G f Q (.code (.cond (.tmp s) a0 b0)::k) ((s,.bool true)::p) ds cs q))(h:lkp p s=some (.bool z):=by rfl)(e:z=true:=by exact kw):Gz (X Tryz.prog G f Q (.code (.cond (.tmp s) a0 b0)::k) p ds cs q):=⟨iJ s K.g h e⟩
def g_kf (K:Gz (X Tryz.prog G f Q (.code (.cond (.tmp s) a0 b0)::k) ((s,.bool false)::p) ds cs q))(h:lkp p s=some (.bool z):=by rfl)(e:z=false:=by exact kw):Gz (X Tryz.prog G f Q (.code (.cond (.tmp s) a0 b0)::k) p ds cs q):=⟨Wc s K.g h e⟩
def g_ot (K:Gz (XO Tryz.prog G f Q ops.toArray k (o0::l0) ((s,.bool true)::p) ds cs q))(h0:(match o0.guard with|some (j,_)=>(ops[j]?).bind (·.dst)|none=>match o0.op with| .pick (.tmp s) _ _=>some s|_=>none)=some s:=by rfl)(h:lkp p s=some (.bool z):=by rfl)(e:z=true:=by exact kw):Gz (XO Tryz.prog G f Q ops.toArray k (o0::l0) p ds cs q):=⟨XO.kt s K.g h e⟩
def g_of (K:Gz (XO Tryz.prog G f Q ops.toArray k (o0::l0) ((s,.bool false)::p) ds cs q))(h0:(match o0.guard with|some (j,_)=>(ops[j]?).bind (·.dst)|none=>match o0.op with| .pick (.tmp s) _ _=>some s|_=>none)=some s:=by rfl)(h:lkp p s=some (.bool z):=by rfl)(e:z=false:=by exact kw):Gz (XO Tryz.prog G f Q ops.toArray k (o0::l0) p ds cs q):=⟨Ew s K.g h e⟩
def g_sl {B}{c}(K:Gz (XO Tryz.prog G f Q ops.toArray k (⟨d0,.indexAddr t (.tmp s) i0,ty,pos,af,gd⟩::l0) ((s,.slice (some B) n2 c)::p) ds cs q))(h:lkp p s=some (.slice a n2 c):=by rfl)(e:a=some B:=by assumption):Gz (XO Tryz.prog G f Q ops.toArray k (⟨d0,.indexAddr t (.tmp s) i0,ty,pos,af,gd⟩::l0) p ds cs q):=⟨osl s e K.g h⟩
def g_dw (K:Gz (XD Tryz.prog G f Q ops k [] [] ops.length [] p ds cs q))(h1:okR ops=true:=by kernel_rfl)(h2:Pt ops=true:=by kernel_rfl)(h3:Bw ops []=true:=by rfl):Gz (X Tryz.prog G f Q (.code (.region rid ops.toArray true)::k) p ds cs q):=⟨drw K.g h1 h2 h3⟩
def g_ni (K:Gz (X Tryz.prog G f Q k p ds cs q))(h:(List.range ops.length).all (done.contains ·)=true:=by rfl):Gz (XD Tryz.prog G f Q ops k pk L 0 done p ds cs q):=⟨XD.nil K.g h⟩
def Zgo (ops:List Oper)(done:List Nat):Nat->Nat->Nat->Option Nat
 |0,_,_=>none
 |n+1,i,j=>match rdy ops done i with
  |true=>match j with
   |0=>some i
   |j+1=>Zgo ops done n (i+1) j
  |false=>Zgo ops done n (i+1) j
def g_dd (j:Nat)(K:Gz (XD Tryz.prog G f Q ops k pk L n' done' p' ds cs q))(hi:Zgo ops done ops.length 0 j=some i:=by rfl)(h:sdn tbl f.n ops [i] n done p []=some ⟨n',done',p',c⟩:=by exact rfl)(hc:Jm c:=by repeat (first|exact trivial|refine Wf (by first|omega|(simp;done)|(simp;omega)) ?_)):Gz (XD Tryz.prog G f Q ops k pk L n done p ds cs q):=⟨dd [i] K.g h hc⟩
def g_dl (j:Nat)(K:Gz (XD Tryz.prog G f Q ops k pk ((i,b,o,v)::L) n (i::done) ((d,v)::p) ds cs q))(hi:Zgo ops done ops.length 0 j=some i:=by rfl)(ho:ops[i]? =some ⟨some d,.load t x,ty,pos,af,gd⟩:=by rfl)(hx:evp p x=some (.pointer (some ⟨b,o,none⟩)):=by rfl)(hc:Cl q ⟨b,o,none⟩ v:=by exact g_cl)(hr:rdy ops done i=true:=by rfl)(hw:Wt ops p ⟨some d,.load t x,ty,pos,af,gd⟩=some true:=by rfl)(hd:Nat.blt d f.n=true:=by rfl)(ht:tbl.lf t=true:=by rfl):Gz (XD Tryz.prog G f Q ops k pk L (n+1) done p ds cs q):=⟨ldD i K.g ho hx hc hr hw hd ht⟩
def g_dA (j:Nat)(K:Gz (XD Tryz.prog G f Q ops k pk (rdA i b o (Wx.sub l o sz)++L) n (i::done) ((d,.agg (Wx.sub l o sz).toArray)::p) ds cs q))(hi:Zgo ops done ops.length 0 j=some i:=by rfl)(ho:ops[i]? =some ⟨some d,.load t x,ty,pos,af,gd⟩:=by rfl)(ht:tbl.ag t=some sz:=by rfl)(hx:evp p x=some (.pointer (some ⟨b,o,none⟩)):=by rfl)(hh:Has q b (.cells l.toArray t' fz):=by exact V2)(hv:Nat.ble (o+sz) l.length=true:=by rfl)(hr:rdy ops done i=true:=by rfl)(hw:Wt ops p ⟨some d,.load t x,ty,pos,af,gd⟩=some true:=by rfl)(hd:Nat.blt d f.n=true:=by rfl):Gz (XD Tryz.prog G f Q ops k pk L (n+1) done p ds cs q):=⟨ldAD i K.g ho ht hx hh hv hr hw hd⟩
def g_dS (j:Nat)(K:Gz (XD Tryz.prog G f Q ops k pk (cut ⟨none,.store t x y,ty,pos,af,gd⟩ L) n (i::done) p ds cs (pto b (.cells (Ku l o v).toArray t' (0,0))::r)))(hi:Zgo ops done ops.length 0 j=some i:=by rfl)(ho:ops[i]? =some ⟨none,.store t x y,ty,pos,af,gd⟩:=by rfl)(hx:evp p x=some (.pointer (some ⟨b,o,none⟩)):=by rfl)(hy:evp p y=some v:=by rfl)(hv:v.cells= #[v]:=by rfl)(h1:v.oneCell'=true:=by rfl)(hq:Le q (pto b (.cells l.toArray t' (0,0))::r):=by exact Zj)(ho2:Nat.blt o l.length=true:=by rfl)(hh:HL (pto b (.cells (Ku l o v).toArray t' (0,0))::r) (cut ⟨none,.store t x y,ty,pos,af,gd⟩ L):=by exact g_hl)(h2:Ut ops done i=true:=by rfl)(hr:rdy ops done i=true:=by rfl)(hw:Wt ops p ⟨none,.store t x y,ty,pos,af,gd⟩=some true:=by rfl)(hs:tbl.s1 t=true:=by rfl):Gz (XD Tryz.prog G f Q ops k pk L (n+1) done p ds cs q):=⟨stD i K.g ho hx hy hv h1 hq ho2 hh h2 hr hw hs⟩
def gs_X (K:Gz (X Tryz.prog G f Q k p ds cs q)):Gz (X Tryz.prog G f Q k p ds cs q):=K
def gs_O (K:Gz (XO Tryz.prog G f Q ops.toArray k l0 p ds cs q)):Gz (XO Tryz.prog G f Q ops.toArray k l0 p ds cs q):=K
def gs_L (K:Gz (XO Tryz.prog G f Q ops.toArray k (⟨some d,.load t x,ty,pos,af,gd⟩::rest) p ds cs q)):Gz (XO Tryz.prog G f Q ops.toArray k (⟨some d,.load t x,ty,pos,af,gd⟩::rest) p ds cs q):=K
def gs_S (K:Gz (XO Tryz.prog G f Q ops.toArray k (⟨none,.store t x y,ty,pos,af,gd⟩::rest) p ds cs q)):Gz (XO Tryz.prog G f Q ops.toArray k (⟨none,.store t x y,ty,pos,af,gd⟩::rest) p ds cs q):=K
def gs_I (K:Gz (XO Tryz.prog G f Q ops.toArray k (⟨d0,.indexAddr t (.tmp s) i0,ty,pos,af,gd⟩::l0) p ds cs q)):Gz (XO Tryz.prog G f Q ops.toArray k (⟨d0,.indexAddr t (.tmp s) i0,ty,pos,af,gd⟩::l0) p ds cs q):=K
def gs_C (K:Gz (X Tryz.prog G f Q (.code (.cond (.tmp s) a0 b0)::k) p ds cs q)):Gz (X Tryz.prog G f Q (.code (.cond (.tmp s) a0 b0)::k) p ds cs q):=K
def gs_W (K:Gz (X Tryz.prog G f Q (.code (.region rid ops.toArray true)::k) p ds cs q)):Gz (X Tryz.prog G f Q (.code (.region rid ops.toArray true)::k) p ds cs q):=K
def gs_D (K:Gz (XD Tryz.prog G f Q ops k pk L n done p ds cs q)):Gz (XD Tryz.prog G f Q ops k pk L n done p ds cs q):=K
def J2 {A B}(h:Gz B->Gz A:=by intro b;(repeat first|(refine gs_O ?_;first|refine g_o 8 ?_|refine g_o 3 ?_|refine g_o 1 ?_|(refine gs_L ?_;first|refine g_ld ?_|refine g_lA ?_)|(refine gs_S ?_;first|refine g_st ?_|refine g_sA ?_)|(refine gs_I ?_;refine g_sl ?_;refine g_o 1 ?_))|(refine gs_X ?_;first|refine g_x 8 ?_|refine g_x 3 ?_|refine g_x 1 ?_|(refine gs_C ?_;(first|refine g_kf ?_|refine g_kt ?_);refine g_x 1 ?_)|(refine gs_W ?_;refine g_dw ?_))|(refine gs_D ?_;first|refine g_dd 0 ?_|refine g_dl 0 ?_|refine g_dA 0 ?_|refine g_dS 0 ?_|refine g_ni ?_));exact b):Gz B->Gz A:=h
def E6 {A B}(b:Gz B)(h:Gz B->Gz A:=by intro b;(repeat first|(refine gs_O ?_;first|refine g_o 8 ?_|refine g_o 3 ?_|refine g_o 1 ?_|(refine gs_L ?_;first|refine g_ld ?_|refine g_lA ?_)|(refine gs_S ?_;first|refine g_st ?_|refine g_sA ?_)|(refine gs_I ?_;refine g_sl ?_;refine g_o 1 ?_)|(refine g_of ?_;refine g_o 1 ?_)|(refine g_ot ?_;refine g_o 1 ?_))|(refine gs_X ?_;first|refine g_x 8 ?_|refine g_x 3 ?_|refine g_x 1 ?_|(refine gs_C ?_;(first|refine g_kf ?_|refine g_kt ?_);refine g_x 1 ?_)|(refine gs_W ?_;refine g_dw ?_))|(refine gs_D ?_;first|refine g_dd 0 ?_|refine g_dl 0 ?_|refine g_dA 0 ?_|refine g_dS 0 ?_|refine g_ni ?_));exact b):Gz A:=h b
def Zz {A B}(K:B)(h:Gz B->Gz A:=by exact fun b=>E6 b):A:=(h ⟨K⟩).g
def Ye {A B}(K:B)(h:Gz B->Gz A:=by exact J2):A:=(h ⟨K⟩).g
def SubQ (p:PE):List Nat->PE->Prop
 |_, []=>True
 |s,(d,v)::r=>(match s.contains d with
  |true=>True
  |false=>lkp p d=some v)/\SubQ p (d::s) r
def SubQ.lk : ∀ {r} {s},SubQ p s r-> ∀ t u,s.contains t=false->lkp r t=some u->lkp p t=some u
 | [],_,_,_,_,_,h=>by cases h
 |(d,v)::r,s,⟨h1,h2⟩,t,u,hs,h=>by
  cases e:Nat.beq d t with
  |true=>have:=cS e;subst this;rw [hs] at h1;simp [lkp,] at h;rw [<-h];exact h1
  |false=>simp [lkp,e] at h;exact h2.lk t u (by simp only [List.contains_cons,hs,Bool.or_false,dD];rintro rfl;exact aV e Zf) h
def g_sq {r}(h:SubQ p [] r:=by repeat (first|exact trivial|refine ⟨(by first|exact trivial|rfl|exact aQ (fun x=>some (Value.bool x)) (Eq.symm Vp)),?_⟩)):SubQ p [] r:=h
def g_fi (M:XO Tryz.prog G f Q ops.toArray k l0 p' ds cs q)(h:SubQ p [] p'):XO Tryz.prog G f Q ops.toArray k l0 p ds cs q:=fun is e tm w n ag s=>M is e tm w n (fun t u hl=>ag t u (h.lk t u rfl hl)) s
def g_wk {x}(h:lkp p s=some v)(M:XO Tryz.prog G f Q ops.toArray k l0 (x::p) ds cs q):XO Tryz.prog G f Q ops.toArray k l0 (x::(s,v)::p) ds cs q:=fun c e b w n d y=>M c e b w n (fun t u a=>d t u (by
 simp [lkp] at a|-
 cases hb:Nat.beq x.1 t with
 |true=>rw [hb] at a;exact a
 |false=>
  rw [hb] at a;simp [cond_false] at a|-
  cases hc:Nat.beq s t with
  |true=>have:=cS hc;subst this;rw [a] at h;cases h;rfl
  |false=>exact a)) y
def Vi {A C:Prop}(M:C)(h:C->Gz A:=by intro M;repeat first|exact ⟨g_fi M g_sq⟩|(first|refine g_o 1 ?_|(refine gs_L ?_;first|refine g_ld ?_|refine g_lA ?_)|(refine gs_S ?_;first|refine g_st ?_|refine g_sA ?_)|(refine gs_I ?_;refine g_sl ?_;refine g_o 1 ?_)|(refine g_of ?_;refine g_o 1 ?_)|(refine g_ot ?_;refine g_o 1 ?_))):A:=(h M).g
def Zbb (ops:List Oper)(o:Oper):Option Nat:=match o.guard with
 |some (j,_)=>(ops[j]?).bind (·.dst)
 |none=>none
def Zwr (s:Nat):List Oper->Nat->Option (Nat×Nat×Bool)
 |⟨some d,.pick (.tmp t) _ (.const (.bool false)),_,_,_,_⟩::l,n=>bif Nat.beq t s then some (n+1,d,true) else Zwr s l (n+1)
 |⟨some d,.pick (.tmp t) (.const (.bool true)) _,_,_,_,_⟩::l,n=>bif Nat.beq t s then some (n+1,d,false) else Zwr s l (n+1)
 |_::l,n=>Zwr s l (n+1)
 | [],_=>none
def Vo {A}{d}(M:XO Tryz.prog G f Q ops.toArray k (J3 n (o0::l0)) ((d,.bool (z && r1))::p) ds cs q)(h0:Gz (XO Tryz.prog G f Q ops.toArray k (o0::l0) p ds cs q)->Gz A:=by exact fun b=>E6 b)(hs:Zbb ops o0=some s:=by rfl)(hn:Zwr s (o0::l0) 0=some (n,d,true):=by rfl)(h:lkp p s=some (.bool z):=by rfl)(ht:z=true->XO Tryz.prog G f Q ops.toArray k (J3 n (o0::l0)) ((d,.bool r1)::(s,.bool true)::p) ds cs q->XO Tryz.prog G f Q ops.toArray k (o0::l0) ((s,.bool true)::p) ds cs q:=by intro _ M;exact Vi M)(hf:z=false->XO Tryz.prog G f Q ops.toArray k (J3 n (o0::l0)) ((d,.bool false)::(s,.bool false)::p) ds cs q->XO Tryz.prog G f Q ops.toArray k (o0::l0) ((s,.bool false)::p) ds cs q:=by intro _ M;exact Vi M):A:=(h0 ⟨.part s h (fun e=>ht e (by rw [e] at M h;exact g_wk h M)) (fun e=>hf e (by rw [e] at M h;exact g_wk h M))⟩).g
def Q1 {A}{d}(ht:φ->XO Tryz.prog G f Q ops.toArray k (J3 n (o0::l0)) ((d,.bool r1)::(s,.bool true)::p) ds cs q->XO Tryz.prog G f Q ops.toArray k (o0::l0) ((s,.bool true)::p) ds cs q)(M:XO Tryz.prog G f Q ops.toArray k (J3 n (o0::l0)) ((d,.bool (z && r1))::p) ds cs q)(h0:Gz (XO Tryz.prog G f Q ops.toArray k (o0::l0) p ds cs q)->Gz A:=by exact fun b=>E6 b)(hs:Zbb ops o0=some s:=by rfl)(hn:Zwr s (o0::l0) 0=some (n,d,true):=by rfl)(h:lkp p s=some (.bool z):=by rfl)(e1:z=true->φ:=by intro h;exact sp h)(hf:z=false->XO Tryz.prog G f Q ops.toArray k (J3 n (o0::l0)) ((d,.bool false)::(s,.bool false)::p) ds cs q->XO Tryz.prog G f Q ops.toArray k (o0::l0) ((s,.bool false)::p) ds cs q:=by intro _ M;exact Vi M):A:=Vo M h0 hs hn h (fun e=>ht (e1 e)) hf
def Yi {A}{d}(M:XO Tryz.prog G f Q ops.toArray k (J3 n (o0::l0)) ((d,.bool (z||r1))::p) ds cs q)(h0:Gz (XO Tryz.prog G f Q ops.toArray k (o0::l0) p ds cs q)->Gz A:=by exact fun b=>E6 b)(hs:Zbb ops o0=some s:=by rfl)(hn:Zwr s (o0::l0) 0=some (n,d,false):=by rfl)(h:lkp p s=some (.bool z):=by rfl)(ht:z=false->XO Tryz.prog G f Q ops.toArray k (J3 n (o0::l0)) ((d,.bool r1)::(s,.bool false)::p) ds cs q->XO Tryz.prog G f Q ops.toArray k (o0::l0) ((s,.bool false)::p) ds cs q:=by intro _ M;exact Vi M)(hf:z=true->XO Tryz.prog G f Q ops.toArray k (J3 n (o0::l0)) ((d,.bool true)::(s,.bool true)::p) ds cs q->XO Tryz.prog G f Q ops.toArray k (o0::l0) ((s,.bool true)::p) ds cs q:=by intro _ M;exact Vi M):A:=(h0 ⟨.part s h (fun e=>hf e (by rw [e] at M h;exact g_wk h M)) (fun e=>ht e (by rw [e] at M h;exact g_wk h M))⟩).g
def Qc {A}{d}(ht:φ->XO Tryz.prog G f Q ops.toArray k (J3 n (o0::l0)) ((d,.bool r1)::(s,.bool false)::p) ds cs q->XO Tryz.prog G f Q ops.toArray k (o0::l0) ((s,.bool false)::p) ds cs q)(M:XO Tryz.prog G f Q ops.toArray k (J3 n (o0::l0)) ((d,.bool (z||r1))::p) ds cs q)(h0:Gz (XO Tryz.prog G f Q ops.toArray k (o0::l0) p ds cs q)->Gz A:=by exact fun b=>E6 b)(hs:Zbb ops o0=some s:=by rfl)(hn:Zwr s (o0::l0) 0=some (n,d,false):=by rfl)(h:lkp p s=some (.bool z):=by rfl)(e1:z=false->φ:=by intro h;exact sp h)(hf:z=true->XO Tryz.prog G f Q ops.toArray k (J3 n (o0::l0)) ((d,.bool true)::(s,.bool true)::p) ds cs q->XO Tryz.prog G f Q ops.toArray k (o0::l0) ((s,.bool true)::p) ds cs q:=by intro _ M;exact Vi M):A:=Yi M h0 hs hn h (fun e=>ht (e1 e)) hf
def Zp {A}(ht:φ->X Tryz.prog G f Q (.code (.cond (.tmp s) a0 b0)::k) ((s,.bool true)::p) ds cs q)(hf:ψ->X Tryz.prog G f Q (.code (.cond (.tmp s) a0 b0)::k) ((s,.bool false)::p) ds cs q)(h0:Gz (X Tryz.prog G f Q (.code (.cond (.tmp s) a0 b0)::k) p ds cs q)->Gz A:=by exact fun b=>E6 b)(h:lkp p s=some (.bool z):=by rfl)(e1:z=true->φ:=by intro h;exact sp h)(e2:z=false->ψ:=by intro h;exact sp h):A:=(h0 ⟨xp s ht hf h e1 e2⟩).g
def Wg {A}(ht:z=true->X Tryz.prog G f Q (.code (.cond (.tmp s) a0 b0)::k) ((s,.bool true)::p) ds cs q)(hf:z=false->X Tryz.prog G f Q (.code (.cond (.tmp s) a0 b0)::k) ((s,.bool false)::p) ds cs q)(h0:Gz (X Tryz.prog G f Q (.code (.cond (.tmp s) a0 b0)::k) p ds cs q)->Gz A:=by exact fun b=>E6 b)(h:lkp p s=some (.bool z):=by rfl):A:=(h0 ⟨X.part s h ht hf⟩).g
def g_rk (h:ResOk Tryz.prog G p q rs us:=by repeat first|exact fM|(refine' kE rfl ?_;rotate_left)|(refine' eD rfl (iO (Iy Um rfl) g_cl) ?_;rotate_left)|(refine' eD rfl (rsL V2 rfl rfl) ?_;rotate_left)):ResOk Tryz.prog G p q rs us:=h
def Zv5:List Value->Value
 | [v]=>v
 |l=> .tuple l.toArray
def g_v1:Zv5 [v]=v:=rfl
def g_v0:Zv5 []= .tuple [].toArray:=rfl
def g_v2 :Zv5 (v::u::vs)= .tuple (v::u::vs).toArray:=rfl
def g_rr (hf:Tryz.prog.funcs[fn]? =some fd)(hl:fd.results=rs.toArray)(hk:ResOk Tryz.prog G p q rs us)(tm:Array Value)(w:World)(ag:Agr tm p)(s:St G w q):(results fd tm).run Tryz.prog w= .ok (Zv5 us) w:=by
 match rs,us,hk with
 | [], [],hk=>exact Pj hl tm w ag s
 | [_], [_],hk=>exact Lf hl hk tm w ag s
 |_::_::_,_::_::_,hk=>exact X8 hl hk tm w ag s
 | [.tmp _],_::_::_,⟨_,hk⟩=>exact hk.elim
 | [.cell _ _],_::_::_,⟨_,hk⟩=>exact hk.elim
 | .tmp _::_::_, [_],⟨_,hk⟩=>exact (by cases ‹ResultVar› <;>exact hk.elim)
 | .cell _ _::_::_, [_],⟨_,hk⟩=>exact (by cases ‹ResultVar› <;>exact hk.elim)
def Zm {A}{z}(q':List HP)(K:R (.returned v) q')(h0:Gz (X Tryz.prog G f (FQ Tryz.prog G fn cs R F) z p [] cs q)->Gz A:=by exact fun b=>E6 b)(hz:z= []\/ ∃ k,z= .code .ret::k:=by first|exact .inl rfl|exact .inr ⟨_,rfl⟩)(hf:Tryz.prog.funcs[fn]? =some fd:=by exact rfl)(hl:fd.results=rs.toArray:=by exact rfl)(hk:ResOk Tryz.prog G p q rs us:=by exact g_rk)(hv:Zv5 us=v:=by first|exact g_v1|exact g_v2|exact g_v0)(hq:Le q (q'++F):=by exact leA):A:=(h0 ⟨by
 subst hv;rcases hz with rfl|⟨k,rfl⟩
 . exact Dn q' hf (g_rr hf hl hk) K hq
 exact Zl q' hf (g_rr hf hl hk) K hq⟩).g
def Vz {A}{z}(q':List HP)(h0:Gz (X Tryz.prog G f (FQ Tryz.prog G fn cs R F) z p [] cs q)->Gz A:=by exact fun b=>E6 b)(hz:z= []\/ ∃ k,z= .code .ret::k:=by first|exact .inl rfl|exact .inr ⟨_,rfl⟩)(hf:Tryz.prog.funcs[fn]? =some fd:=by exact rfl)(hl:fd.results=rs.toArray:=by exact rfl)(hk:ResOk Tryz.prog G p q rs us:=by exact g_rk)(hv:Zv5 us=v:=by first|exact g_v1|exact g_v2|exact g_v0)(hq:Le q (q'++F):=by exact leA)(K:R (.returned v) q':=by exact ⟨_,rfl,rfl,rfl⟩):A:=Zm q' K h0 hz hf hl hk hv hq
def Zg {A}{z}(K: ∃ q',R (.returned v) q'/\Le q (q'++F))(h0:Gz (X Tryz.prog G f (FQ Tryz.prog G fn cs R F) z p [] cs q)->Gz A:=by exact fun b=>E6 b)(hz:z= []\/ ∃ k,z= .code .ret::k:=by first|exact .inl rfl|exact .inr ⟨_,rfl⟩)(hf:Tryz.prog.funcs[fn]? =some fd:=by exact rfl)(hl:fd.results=rs.toArray:=by exact rfl)(hk:ResOk Tryz.prog G p q rs us:=by exact g_rk)(hv:Zv5 us=v:=by first|exact g_v1|exact g_v2|exact g_v0):A:=let ⟨q',a,b⟩:=K;Zm q' a h0 hz hf hl hk hv b
def Zs {A}{z}(x:X Tryz.prog G f Q z p' ds cs r)(h0:Gz (X Tryz.prog G f Q z p ds cs q)->Gz A:=by exact fun b=>E6 b)(h:SubP p' p:=by exact Z5)(hq:Le q r:=by exact leA):A:=(h0 ⟨cH x h hq⟩).g
abbrev CR (G:World)(n:FuncId)(a:List Value)(q:List HP)(u:Value):Prop:=CallF Tryz.prog G n a q (Ret fun v q'=>v=u/\q'=q)
def We {c:Code}{pre:List HP}{B:List HP->List Frame->Prop}(hn:fd.ntmps=n)(K: ∀ F cs,B F cs)(hf:Tryz.prog.funcs[fn]? =some fd:=by exact rfl)(hb:fd.body=some c:=by exact rfl)(h: ∀ F cs,Gz (B F cs)->Gz (X Tryz.prog G ⟨fn,n,.normal,none⟩ (FQ Tryz.prog G fn cs R F) [.code c] (Zqv 0 vs) [] cs (pre++F)):=by exact fun F cs b=>E6 b)(hl:Nat.ble vs.length n=true:=by rfl):CallF Tryz.prog G fn vs pre R:=aE hn (fun F cs=>(h F cs ⟨K F cs⟩).g) hl hf hb
def Zo {A}{z}(hz: ∀ w,(zeroValue t).run Tryz.prog w= .ok z w)(K: ∀ n,XO Tryz.prog G f Q ops.toArray k rest ((d,.pointer (some ⟨n,0,none⟩))::p) ds cs (pto n (.cells z.cells t (0,0))::q))(h0:Gz (XO Tryz.prog G f Q ops.toArray k (⟨some d,.alloc t,ty,pos,af,gd⟩::rest) p ds cs q)->Gz A:=by exact fun b=>E6 b)(hw:Wt ops p ⟨some d,.alloc t,ty,pos,af,gd⟩=some true:=by rfl)(hd:Nat.blt d f.n=true:=by rfl):A:=(h0 ⟨iR hz K hw hd⟩).g
def Yb {A}(K: ∀ n,XO Tryz.prog G f Q ops.toArray k rest ((d,.pointer (some ⟨n,0,none⟩))::p) ds cs (pto n (.cells v.cells t (0,0))::q))(h0:Gz (XO Tryz.prog G f Q ops.toArray k (⟨some d,.box t x,ty,pos,af,gd⟩::rest) p ds cs q)->Gz A:=by exact fun b=>E6 b)(hx:evp p x=some v:=by rfl)(hw:Wt ops p ⟨some d,.box t x,ty,pos,af,gd⟩=some true:=by rfl)(hd:Nat.blt d f.n=true:=by rfl):A:=(h0 ⟨Gx K hx hw hd⟩).g
def Wb {B:Prop}{args:List Operand}{ats:Array TypeId}(hc:CallF Tryz.prog G fn vs q (Ret fun v q'=>v=u/\q'=q))(K:B)(hv:evl p args=some vs:=by rfl)(h:Gz B->Gz (XO Tryz.prog G f Q ops.toArray k rest ((d,u)::p) ds cs q):=by exact fun b=>E6 b)(hw:Wt ops p ⟨some d,.call ⟨.value (.func fn),args.toArray,ats⟩,ty,pos,af,gd⟩=some true:=by rfl)(hd:Nat.blt d f.n=true:=by rfl)(hcf: ∀ args w,(callFunc fn args).run Tryz.prog w= .ok (.enter fn args) w:=by intro _ _;exact rfl):XO Tryz.prog G f Q ops.toArray k (⟨some d,.call ⟨.value (.func fn),args.toArray,ats⟩,ty,pos,af,gd⟩::rest) p ds cs q:=bD hc (h ⟨K⟩).g hv hw hd hcf
def flA {e:FlE}{z:Value}(hz: ∀ w,(zeroValue t).run Tryz.prog w= .ok z w)(h1:ops[e.i]? =some ⟨some d,.alloc t,ty,pos,af,gd⟩:=by rfl)(h2:some d=some e.d:=by rfl)(h3:rdy ops done e.i=true:=by rfl)(h4:Wt ops p ⟨some d,.alloc t,ty,pos,af,gd⟩=some true:=by rfl)(h5:Nat.blt e.d f.n=true:=by rfl)(h6:Mv p e.d=true:=by rfl)(h7: ∀ n,(.pointer (some ⟨n,0,none⟩):Value)=e.V n:=by exact fun _=>rfl)(h8: ∀ n,pto n (.cells z.cells t (0,0))=e.A n:=by exact fun _=>rfl): ∃ o,ops[e.i]? =some o/\o.dst=some e.d/\rdy ops done e.i=true/\Wt ops p o=some true/\Nat.blt e.d f.n=true/\Mv p e.d=true/\ ∀ q,Ef Tryz.prog G p q o fun v q'=> ∃ g,v=e.V g/\q'=e.A g::q:=⟨_,h1,h2,h3,h4,h5,h6,fun q h w j s=>by obtain ⟨v,c,q',a,b,n,rfl,rfl⟩:=Ef.alloc (G:=G) hz h w j s;exact ⟨_,c,_,a,b,n,h7 n,by rw [h8]⟩⟩
end
structure Ins where
 c:Int
 a:Int
 b:Int
 n:Int
def Y7 (i:Ins):List Value:= [.int .i64 i.c,.int .i64 i.a,.int .i64 i.b,.int .i64 i.n]
structure Cod where
 name:ByteArray
 locals:Int
 ins:List Ins
 lines:List Int
 ia:Option Addr
 ic:Nat
 la:Option Addr
 lc:Nat
def Vs (x:Cod):List Value:= [.string x.name,.int .i64 x.locals,.slice x.ia x.ins.length x.ic,.slice x.la x.lines.length x.lc]
structure Mdl where
 vars:List Int
 arrays:List Int
 chans:List Int
 mutexes:Int
 conds:Int
 threads:List Cod
 va:Option Addr
 vc:Nat
 aa:Option Addr
 ac:Nat
 ca:Option Addr
 cc:Nat
 ta:Option Addr
 tc:Nat
def J0 (m:Mdl):List Value:= [.slice m.va m.vars.length m.vc,.slice m.aa m.arrays.length m.ac,.slice m.ca m.chans.length m.cc,.int .i64 m.mutexes,.int .i64 m.conds,.slice m.ta m.threads.length m.tc]
abbrev I64:Int->Value:=Value.int .i64
abbrev bT:Value:= .bool true
abbrev bF:Value:= .bool false
def cB {a b}(h:a=b):Value.bool a= .bool b:=by rw [h]
structure CodQ (q:List HP) (x:Cod):Prop where
 i:Sees q x.ia (x.ins.flatMap Y7)
 l:Sees q x.la (x.lines.map I64)
 n:x.name.size<=9223372036854775807
 ni:x.ins.length<=9223372036854775807
 nl:x.lines.length<=9223372036854775807
structure MdlQ (q:List HP) (m:Mdl):Prop where
 v:Sees q m.va (m.vars.map I64)
 a:Sees q m.aa (m.arrays.map I64)
 c:Sees q m.ca (m.chans.map I64)
 t:Sees q m.ta (m.threads.flatMap Vs)
 x: ∀ x∈m.threads,CodQ q x
 nv:m.vars.length<=9223372036854775807
 na:m.arrays.length<=9223372036854775807
 nc:m.chans.length<=9223372036854775807
 nt:m.threads.length<=9223372036854775807
 ka:m.arrays.length<=m.ac
def CodQ.le {x}(h:CodQ q' x)(k:Le q q'):CodQ q x:=⟨h.i.le k,h.l.le k,h.n,h.ni,h.nl⟩
def MdlQ.le {m}(h:MdlQ q' m)(k:Le q q'):MdlQ q m:=⟨h.v.le k,h.a.le k,h.c.le k,h.t.le k,fun x hx=>(h.x x hx).le k,h.nv,h.na,h.nc,h.nt,h.ka⟩
def nmA (c:Int):Bool:=decide ((2<=c/\c<=7)\/(19<=c/\c<=21)\/(23<=c/\c<=31))
def M3 (i:Ins):Prop:=(1<=i.c/\i.c<=34)/\(if nmA i.c=true then 0<=i.a/\i.a<=65535 else i.a=0)/\(if i.c=26 then 0<=i.b/\i.b<=65535 else i.b=0)/\(if i.c=1 then -2147483648<=i.n/\i.n<=2147483647 else i.n=0)
instance (i:Ins):Decidable (M3 i):=by unfold M3;infer_instance
def Ym (n lo hi:Int):Prop:=lo<=n/\n<=hi
instance (n lo hi:Int):Decidable (Ym n lo hi):=by unfold Ym;infer_instance
def Gj (x:Cod):Prop:=Ym x.name.size 1 16/\Ym x.locals 0 32/\(x.ins.length:Int)=x.lines.length/\((x.ins.length:Int)<=65536/\ ∀ i∈x.ins,M3 i)/\((x.lines.length:Int)<=65536/\ ∀ n∈x.lines,Ym n 0 65536)
instance (x:Cod):Decidable (Gj x):=by unfold Gj;infer_instance
def Nd (m:Mdl):Prop:=Ym m.mutexes 0 64/\Ym m.conds 0 64/\((m.vars.length:Int)<=64/\ ∀ n∈m.vars,Ym n (-2147483648) 2147483647)/\((m.arrays.length:Int)<=64/\ ∀ n∈m.arrays,Ym n 0 256)/\((m.chans.length:Int)<=64/\ ∀ n∈m.chans,Ym n 1 16)/\((m.threads.length:Int)<=64/\ ∀ x∈m.threads,Gj x)
instance (m:Mdl):Decidable (Nd m):=by unfold Nd;infer_instance
def Zqp (m:Mdl):Int:=if Nd m then 0 else 2
def Bf {m}:Zqp m=0↔Nd m:=by unfold Zqp;split<;>simp_all
def cdC (x:ByteArray×Int):List Value:= [.string x.1,I64 x.2]
def Cw:List Int:= [0,3,1,1,1,1,1,1,0,0,0,0,0,0,0,0,0,0,0,1,1,1,0,1,1,1,2,1,1,1,1,1,0,0,0]
def whatL_at: ∀ k:Fin 35,1<=k.val->((Cw[k.val]'k.isLt==1||Cw[k.val]'k.isLt==2)=nmA k.val)/\((Cw[k.val]'k.isLt==2)=decide ((k.val:Int)=26))/\((Cw[k.val]'k.isLt==3)=decide ((k.val:Int)=1)):=by decide
def Br {α:Type}{p}{l:List α}(h:n<l.length):(l.take (n+1)).any p=((l.take n).any p||p l[n]):=by
 rw [aM h,List.any_append];simp
def Ik {α:Type}{p}{l:List α}(h:n<l.length)(hp:p l[n]=true):l.any p=true:=List.any_eq_true.2 ⟨_,aC h,hp⟩
end Go.Proofs.YtadahhbefdnabaaGreatDoor
namespace Wx
open Go Go.RowKit
section
variable {P:Program}{p:PE}{M M':Hp}{a:Option Addr}{vs:List Value}{c n ty sz:Nat}
abbrev Bs:=List UInt8
def bs (s:ByteArray):Bs:=s.data.toList
def ba (l:Bs):ByteArray:=⟨l.toArray⟩
def em:ByteArray:=⟨#[]⟩
def J5 (l:Bs):bs (ba l)=l:=rfl
def ba_bs (s:ByteArray):ba (bs s)=s:=by cases s;rfl
theorem Ry (s:ByteArray):(bs s).length=s.size:=rfl
def Zv3 (a b:ByteArray):(a.toList==b.toList)=(bs a==bs b):=by rw [ByteArray.toList_eq,ByteArray.toList_eq];rfl
def s8 (s:ByteArray)(n:Nat):Int:=(((bs s).getD n 0).toNat:Int)
section
variable {d:Option Tmp}{ty:TypeId}{pos:String}{af:Array Edge}{gd:Option (Nat×Bool)}{x y z:Operand}{t:TypeId}{kd kd':IntKind}{s:ByteArray}{i j:Int}
def Vf (hx:evp p x=some (.string s))(hy:evp p y=some (.int kd i))(ht:P.underlying t=some .string)(h0:0<=i)(h1:i.toNat<s.size):Pu P p ⟨d,.index t x y,ty,pos,af,gd⟩ (.int .u8 (s8 s i.toNat)):=fun g w b=>by
 have f:s8 s i.toNat=(s[i.toNat].toNat:Int):=by
  unfold s8 bs;have c:s.data.toList[i.toNat]? =some s.data.toList[i.toNat]:=aB h1;unfold List.getD;rw [c];rfl
 rw [f];simp [execOp,Zu b hx,Zu b hy,Instr.index,asIntOf,run_underlying ht,h0,getElem?_pos s i.toNat h1]
def Xc (hx:evp p x=some (.string s))(hy:evp p y=some (.int kd i))(hz:evp p z=some (.int kd' j))(ht:P.underlying t=some .string)(h0:0<=i)(h1:i<=j)(h2:j.toNat<=s.size):Pu P p ⟨d,.slice t x (some y) (some z) none,ty,pos,af,gd⟩ (.string (s.extract i.toNat j.toNat)):=fun e w a=>by
 have c:0<=j/\j<=(s.size:Int):=⟨Zq,Zq⟩;have b:0<=i/\i<=(j.toNat:Int):=⟨h0,Zq⟩;simp [execOp,Zu a hx,Zu a hy,Zu a hz,Instr.sliceAt,Instr.slice,Instr.sliceBounds,Instr.sliceBound,asIntOf,run_underlying ht,c];omega
end
def Zxv (s:ByteArray)(i j:Nat):bs (s.extract i j)=((bs s).drop i).take (j - i):=by
 simp [bs,]
def Kn (q:List HP)(φ:Hp->Prop):Prop:= ∀ M h,(stars q).p M h->φ M
def lst (φ:Hp->Prop)(mono: ∀ {M M':Hp},Hle M M'->φ M->φ M'):HP:=⟨fun M _=>φ M,fun e _ p=>mono e p⟩
section
variable {G w:World}{f:Fc}{Q:Yp}{ops:List Oper}{k:List Item}{l:List Oper}{ds:List Deferred}{cs:List Frame}{q q0:List HP}{φ ψ:Hp->Prop}{mn: ∀ {M M':Hp},Hle M M'->φ M->φ M'}{A:HP}
def Kn.le (h:Kn q0 φ)(k:Le q q0:=by exact leA):Kn q φ:=fun M x p=>h M x (k M x p)
abbrev cO:=@Kn.le
def Kn.here:Kn (lst φ mn::q) φ:=fun _ _ ⟨_,_,_,_,_,p,_⟩=>p
abbrev fJ:=@Kn.here
def Kn.there (h:Kn q φ):Kn (A::q) φ:=h.le (dS A q)
def Kn.imp (h:Kn q φ)(k: ∀ M,φ M->ψ M):Kn q ψ:=fun M x p=>k M (h M x p)
abbrev lB:=@Kn.imp
def Kn.and (h:Kn q φ)(k:Kn q ψ):Kn q fun M=>φ M/\ψ M:=fun M x p=>⟨h M x p,k M x p⟩
abbrev gG:=@Kn.and
theorem Kn.add (h:Kn q φ):Le q (lst φ mn::q):=fun M x p=>⟨fun _=>none,x,fun _=> .inl rfl,fun _ _ e=>by simp at e,.refl _,h M x p,p⟩
abbrev dP:=@Kn.add
def SeesZ (M:Hp)(a:Option Addr)(vs:List Value):Prop:= ∀ i u,vs[i]? =some u-> ∃ b o cur ty,a=some ⟨b,o,none⟩/\M b=some (.cells cur ty (0,0))/\cur[o+i]? =some u
def SeesZ.mono (e:Hle M M')(h:SeesZ M a vs):SeesZ M' a vs:=fun i u hu=>
 let ⟨b,o,cur,ty,e1,e2,e3⟩:=h i u hu;⟨b,o,cur,ty,e1,e _ _ e2,e3⟩
def Kn.sees (h:Kn q fun M=>SeesZ M a vs):Sees q a vs:=by
 rintro G w ⟨_,M,x,x1,_,_,_,_,p⟩ i u d;have ⟨b,o,c,ty,j,e,g⟩:=h M x p i u d;have f:w.heap[b]? =some _:=x1 _ _ e;grind [World.cell?]
abbrev eP:=@Kn.sees
def Kn.fact {χ:Prop}(h:Kn q φ)(k: ∀ M,φ M->χ)(s:St G w q):χ:=let ⟨_,M,x,_,_,_,_,_,p⟩:=s;k M (h M x p)
def knA {m: ∀ {M M'},Hle M M'->φ M->φ M'}(h:Le q (lst φ m::q0):=by exact Zj):Kn q φ:=Kn.here.le h
def SlAt (M:Hp)(a:Option Addr)(c n:Nat)(vs:List Value):Prop:=n<=c/\c<=maxLen/\SeesZ M a vs
def SlAt.mono (e:Hle M M')(h:SlAt M a c n vs):SlAt M' a c n vs:=⟨h.1,h.2.1,h.2.2.mono e⟩
abbrev fD:=@SlAt.mono
def Zf0 {h}(p:slP a c ty sz n vs h):SeesZ h a vs:=by
 have ⟨p1,p2⟩:=p;intro i u b;grind
def slP.at (p:slP a c ty sz n vs M):SlAt M a c n vs:=by
 refine ⟨?_,?_,Zf0 p⟩
 . rcases p.2 with ⟨_,rfl,h⟩|⟨g,b,k,j,i,f,e,d⟩
   all_goals omega
 rcases p.2 with ⟨_,rfl,h⟩|⟨g,b,k,j,i,f,e,d⟩
 all_goals omega
theorem SlAt.nil (M:Hp):SlAt M none 0 0 []:=⟨aS _,by simp,fun i u h=>by simp at h⟩
def Kn.slM {a}{c ty sz n}{vs}:Kn (slM a c ty sz n vs::q) fun M=>SlAt M a c n vs:=fun _ _ ⟨_,_,_,_,_,p,_⟩=>slP.at p
def frz (hq:Le q (slH a c ty sz n vs::q0):=by exact Zj)(h:Kn (lst (fun M=>SlAt M a c n vs) fD::q0) φ)(s:St G w q):St G w (lst φ mn::q0):=by
 have e:=(s.le hq).slFreeze;have b:=(e.le (dP (mn:=fD) Kn.slM)).le (aK (iL _ _ _) (dS _ _));exact (b.le (dP h)).le (aK (iL _ _ _) (dS _ _))
def X.frz {todo}(h:Kn (lst (fun M=>SlAt M a c n vs) fD::q0) φ)(x:X P G f Q todo p ds cs (lst φ mn::q0))(hq:Le q (slH a c ty sz n vs::q0):=by exact Zj):X P G f Q todo p ds cs q:= .turn (fun w=>Wx.frz hq h) x
def XO.frz (h:Kn (lst (fun M=>SlAt M a c n vs) fD::q0) φ)(x:XO P G f Q ops.toArray k l p ds cs (lst φ mn::q0))(hq:Le q (slH a c ty sz n vs::q0):=by exact Zj):XO P G f Q ops.toArray k l p ds cs q:= .turn (fun w=>Wx.frz hq h) x
end
end
section
section
variable {α:Type}{P:Program}{G:World}{fr:Fc}{Q:Yp}{k:List Item}{p:PE}{ds:List Deferred}{cs:List Frame}{q q0 r:List HP}{ops lo:List Oper}{f:α->List Value}{sz ty:Nat}{a b:Option Addr}{c c':Nat}{l m:List α}
section
variable {d:Option Tmp}{ty':TypeId}{pos:String}{af:Array Edge}{gd:Option (Nat×Bool)}{x y:Operand}{t:TypeId}{z:Value}{bytes i:Nat}
def Zj7 (off:Nat): ∀ (us:List Value) (n:Nat) (pre post:List Value),pre.length=off+n->us.length<=post.length->(us.zipIdx n).foldl (fun cs (c,i)=>cs.setIfInBounds (off+i) c) (pre++post).toArray=(pre++us++post.drop us.length).toArray:=by
 intro us
 induction us with
 |nil=>simp
 |cons u r ih=>
  intro n pre post a h;obtain ⟨x,post,rfl⟩: ∃ x l,post=x::l:=by cases post<;>grind
  have:=ih (n+1) (pre++ [u]) post Zi (by simpa using h);simp_all
def Ef.litR2 {u v}(f:α->List Value)(ht:P.underlying t=some (.slice ty))(hi:(P.info? ty).map (fun i=>(i.zero,i.size,i.bytes))=some (some z,sz,bytes))(h0:Nat.ble (2*sz) 16777216=true)(hn:Nat.blt 0 sz=true)
 (hf: ∀ x,(f x).length=sz) (hx:evp p x=some (.agg (f u).toArray)) (hy:evp p y=some (.agg (f v).toArray)):
 Ef P G p q ⟨d,.buildSlice t 2 [(0,x),(1,y)].toArray,ty',pos,af,gd⟩ fun w q'=> ∃ g,w= .slice (some ⟨g,0,none⟩) 2 2/\q'=Wx.rsH f sz ty (some ⟨g,0,none⟩) 2 [u,v]::q:=by
 have l: ∀ u,(Value.agg (f u).toArray).cells=(f u).toArray:=fun _=>rfl
 have a:Instr.fill (fun i=>some (i*sz,sz)) ((Array.range (2*sz)).map (z.cells[· % z.cells.size]!)) (([(0,x),(1,y)].map (·.1)).zip [Value.agg (f u).toArray,Value.agg (f v).toArray])=some (f u++f v).toArray:=by
  obtain ⟨A,m,k⟩: ∃ A:List Value,(Array.range (2*sz)).map _=A.toArray/\A.length=2*sz:=⟨((Array.range _).map (z.cells[· % z.cells.size]!)).toList,Array.toArray_toList.symm,Zf⟩;have e:=Zj7 (0*sz) (f u) 0 [] A Zf (by grind);have h: ∀ (b:Nat) (us:List Value) (A:Array Value),(us.toArray.zipIdx).foldl (fun cs (c,i)=>cs.setIfInBounds (b+i) c) A=(us.zipIdx 0).foldl (fun cs (c,i)=>cs.setIfInBounds (b+i) c) A:=Zf;have n:=(h _ (f v) (f u++A.drop (f u).length).toArray).trans (Zj7 (1*sz) (f v) 0 (f u) _ (by grind) (by grind));simp_all [Instr.fill];omega
 have:=kS (G:=G) (p:=p) (q:=q) (d:=d) (ty:=ty') (pos:=pos) (af:=af) (gd:=gd) ht hi (by simp [evl,hx,hy]) Zq (by simp_all) a (by grind);grind [Wx.rsH]
end
variable {φ:Hp->Prop}{mn: ∀ {M M':Hp},Hle M M'->φ M->φ M'}
def X.frzR {todo}(h:Kn (lst (fun M=>SlAt M a c l.length (l.flatMap f)) fD::q0) φ)(x:X P G fr Q todo p ds cs (lst φ mn::q0))(hq:Le q (rsH f sz ty a c l::q0):=by exact Zj):X P G fr Q todo p ds cs q:= .frz h x hq
end
end
section
section
variable {P:Program}{G:World}{f:Fc}{Q:Yp}{ops:List Oper}{k:List Item}{p:PE}{ds:List Deferred}{cs:List Frame}{q:List HP}{rest:List Oper}{v:Value}
variable {pk:PE}{L:Rds}{n:Nat}{done:List Nat}{args:List Operand}{ats:Array TypeId}{ty:TypeId}{pos:String}{af:Array Edge}{gd:Option (Nat×Bool)}{vs:List Value}{pre:List HP}{R:Value->List HP->Prop}{d:Tmp}{fo:Operand}{fv:Value}
def XD.cVX (i:Nat)(hq:Le q pre)(hc:CallV P G fv vs pre (Ret R))
 (K: ∀ v q',R v q'->HL q' (cut ⟨some d,.call ⟨.value fo,args.toArray,ats⟩,ty,pos,af,gd⟩ L)/\XD P G f Q ops k pk (cut ⟨some d,.call ⟨.value fo,args.toArray,ats⟩,ty,pos,af,gd⟩ L) n (i::done) ((d,v)::p) ds cs q')
 (ho:ops[i]? =some ⟨some d,.call ⟨.value fo,args.toArray,ats⟩,ty,pos,af,gd⟩:=by rfl) (hf:evp p fo=some fv:=by rfl) (hv:evl p args=some vs:=by rfl)
 (h1:Ut ops done i=true:=by rfl) (hr:rdy ops done i=true:=by rfl) (hw:Wt ops p ⟨some d,.call ⟨.value fo,args.toArray,ats⟩,ty,pos,af,gd⟩=some true:=by rfl) (hd:Nat.blt d f.n=true:=by rfl):XD P G f Q ops k pk L (n+1) done p ds cs q:=
 .call i ho hf hv hc (hq.trans (J1 pre)) (fun v q' h a e=>by grind) h1 hr hw hd
end
end
section
variable {P:Program}{w:World}{ds:List Deferred}{cs:List Frame}{v:Value}{cst:Array Bool}
def Brn (w:World)(a:Addr):Prop:= ∃ cs ty,w.heap[a.block]? =some (.cells cs ty (0,0))
def U3 (e:Addr×Value×Nat):MapEntry:= { key:= .pointer (some e.1),val:=e.2.1,born:=e.2.2 }
section
variable {G:World}{f:Fc}{Q:Yp}{ops:List Oper}{k:List Item}{rest:List Oper}{p:PE}{q r:List HP}{d:Option Tmp}{ty:TypeId}{pos:String}{af:Array Edge}{gd:Option (Nat×Bool)}{x y z:Operand}{t t' kt et te:TypeId}{kd:IntKind}{u:Value}{b clock:Nat}{es:List (Addr×Value×Nat)}{a:Addr}{j:TypeInfo}
def De {c}(hp:P.underlying kt=some (.pointer te))(hte:P.info? te=some j)(hsz:j.size≠0)(hne:a≠c)(ha:Brn w a)(hb:Brn w c):
 (Op.equal kt (.pointer (some a)) (.pointer (some c))).run P w= .ok false w:=by
 have ⟨ca,e,ha⟩:=ha;have ⟨f,b,hb⟩:=hb
 have h: ∀ d:Nat,(Op.equalIn (d+1) kt (.pointer (some a)) (.pointer (some c))).run P w= .ok false w:=fun d=>by
  simp [Op.equalIn,run_underlying hp,Go.sizeOf,typeInfo,hte,hsz,run_sameAddr_other w hne ha hb]
 grind [Op.equal,Op.maxDepth]
def X7 (hp:P.underlying kt=some (.pointer te))(hte:P.info? te=some j):(Op.equal kt (.pointer (some a)) (.pointer (some a))).run P w= .ok true w:=by
 have h: ∀ d:Nat,(Op.equalIn (d+1) kt (.pointer (some a)) (.pointer (some a))).run P w= .ok true w:=fun d=>by
  simp [Op.equalIn,run_underlying hp,Go.sizeOf,typeInfo,hte,run_sameAddr_same]
 grind [Op.equal,Op.maxDepth]
def Bt {w}(hp:P.underlying kt=some (.pointer te))(hte:P.info? te=some j)(hsz:j.size≠0)(ha:Brn w a): ∀ (es:List (Addr×Value×Nat)) (i:Nat),(∀ e∈es,a≠e.1/\Brn w e.1)->
 (Instr.findAsking kt (.pointer (some a)) (es.map U3) i).run P w= .ok none w
 | [],i,_=>by simp [Instr.findAsking]
 |e::es,i,h=>by
  have b:=h e (bO ..);simp [Instr.findAsking,U3,De hp hte hsz b.1 ha b.2,Bt hp hte hsz ha es (i+1) (fun y c=>h y (bQ _ c))]
def C2 {w}{v}{n}(hp:P.underlying kt=some (.pointer te))(hte:P.info? te=some j)(hsz:j.size≠0)(ha:Brn w a): ∀ (es:List (Addr×Value×Nat)) (i:Nat),(∀ e∈es,a≠e.1/\Brn w e.1)->
 (Instr.findAsking kt (.pointer (some a)) ((es++ [(a,v,n)]).map U3) i).run P w= .ok (some (i+es.length,v)) w
 | [],i,_=>by simp [Instr.findAsking,U3,X7 hp hte]
 |e::es,i,h=>by
  have c:=h e (bO ..);have b:=C2 (v:=v) (n:=n) hp hte hsz ha es (i+1) (fun y d=>h y (bQ _ d));rw [show i+1+es.length=i+(e::es).length by simp;omega] at b;simp [Instr.findAsking,U3,De hp hte hsz c.1 ha c.2];simpa [U3] using b
def Zqa {es}{o}(hp:P.underlying kt=some (.pointer te))(h:(Instr.findAsking kt (.pointer (some a)) es 0).run P w= .ok o w):(Instr.findKey kt (.pointer (some a)) es).run P w= .ok o w:=by
 unfold Instr.findKey
 cases es<;>simp_all [run_underlying,Instr.findNow,Instr.findAsking,Instr.sameNow]
def Lk (hp:P.underlying kt=some (.pointer te))(e:Bool)(n:Nat):(Instr.checkKey e (n+1) kt (.pointer (some a))).run P w= .ok () w:=by
 simp_all [Instr.checkKey,run_underlying]
def KeysAt (q:List HP)(a:Addr)(es:List (Addr×Value×Nat)):Prop:= ∀ G w,St G w q->Brn w a/\ ∀ e∈es,a≠e.1/\Brn w e.1
def KeysAt.le {q'}(h:KeysAt q' a es)(l:Le q q'):KeysAt q a es:=fun G w s=>h G w (s.le l)
def Xl (ht:P.underlying t=some (.map kt et))(hp:P.underlying kt=some (.pointer te))(hte:P.info? te=some j)(hsz:j.size≠0)(hx:evp p x=some (.map (some b)))(hy:evp p y=some (.pointer (some a)))(hz:evp p z=some v)(hK:KeysAt q a es)
 (hq:Le q (pto b (.map (es.map U3).toArray clock)::r)):Ef P G p q ⟨d,.mapUpdate t x y z,ty,pos,af,gd⟩ fun u q'=>u=undef/\q'=pto b (.map ((es++ [(a,v,clock)]).map U3).toArray (clock+1))::r:=
 fun k w f s=>by
  have ⟨e,c⟩:=hK G w s;have g:=s.le hq;have h:=g.has (dV _ _ _);refine ⟨undef,_,_,.inr ⟨rfl,?_⟩,g.setObjM (o:= .map ((es.map U3).toArray.push { key:= .pointer (some a),val:=v,born:=clock }) (clock+1)),rfl,by simp [U3]⟩;simp [execOp,Zu f hx,Zu f hy,Zu f hz,Instr.mapUpdate,run_underlying ht,MapKept.run_getObj_map h,Lk hp,Zqa hp (Bt hp hte hsz e es 0 c),MapKept.run_setObj_map _ h]
def If {zv}(ht:P.underlying t=some (.map kt et))(hp:P.underlying kt=some (.pointer te))(hte:P.info? te=some j)(hsz:j.size≠0)(hx:evp p x=some (.map (some b)))(hy:evp p y=some (.pointer (some a)))(hK:KeysAt q a es)
 (hq:Le q (pto b (.map (es.map U3).toArray clock)::r)) (hz: ∀ w,(zeroValue et).run P w= .ok zv w):Rd P G p q ⟨d,.lookup t x y true,ty,pos,af,gd⟩ (.tuple [zv,.bool false].toArray):=
 fun i w f s=>by
  have ⟨e,c⟩:=hK G w s;simp [execOp,Zu f hx,Zu f hy,Instr.lookup,run_underlying ht,MapKept.run_getObj_map ((s.le hq).has (dV _ _ _)),Lk hp,Zqa hp (Bt hp hte hsz e es 0 c),hz]
def dfDel (ats:Array TypeId)(ty:TypeId)(cst:Array Bool)(b:Nat)(a:Addr):Deferred:= { target:= .builtin .delete ats ty cst,args:= #[.map (some b),.pointer (some a)] }
def XO.dfDel {ats}{m y}(K: ∀ cst,XO P G f Q ops.toArray k rest (Jt p d undef) (Wx.dfDel ats ty cst b a::ds) cs q)(hm:evp p m=some (.map (some b)):=by rfl)(hy:evp p y=some (.pointer (some a)):=by rfl)(hro:f.round=none:=by rfl)(hd:dOk f.n d=true:=by rfl)
 (hw:Wt ops p ⟨d,.defer ⟨.builtin .delete, [m,y].toArray,ats⟩,ty,pos,af,gd⟩=some true:=by rfl):
 XO P G f Q ops.toArray k (⟨d,.defer ⟨.builtin .delete, [m,y].toArray,ats⟩,ty,pos,af,gd⟩::rest) p ds cs q:=by
 intro is h g w n l s
 cases is with
 |nil=>simp at h
 |cons i r=>
  have ⟨ho,u⟩:=gJ h;have c: ∃ cst,∀ w,(resolve (evA g) ⟨.builtin .delete, [m,y].toArray,ats⟩ ty).run P w= .ok (Wx.dfDel ats ty cst b a) w:=⟨_,fun w=>by simp [resolve,Zu l hm,Zu l hy];rfl⟩;have ⟨cst,c⟩:=c;have ⟨o',o,p',v,j,w',q',hQ,hn,ha,hs,z⟩:=K cst r u _ w (by rw [Yr];exact n) (l.put (n ▸ hd)) s;refine ⟨o',o,p',v,j,w',q',hQ,hn,ha,hs,z.head (.one (step_lone_go ?_))⟩;have e:=U0 f g (Wx.dfDel ats ty cst b a::ds) _ i r k undef ho;rw [<-e];have he:(f.fr g ds (.inRegion ops.toArray (i::r)::k)).eval=evA g:=funext fun x=>M6 ..
  simp [Fc.fr,hro] at he;simp [stepG,stepG.exec,stepG.oper,Frame.oper?,Fc.fr,ho,Y6 l hw,he,hro];simp [stepG.apply,execOp,c]
def Zz4 {fr}{w'}{bi}{ats}{tt}{args}(hm:fr.mode≠ .run)(hd:fr.defers= { target:= .builtin bi ats tt cst,args:=args } ::ds)
 (hi:(invoke (.builtin bi ats tt cst) args).run P w= .ok (.value v) w'):step P (lone fr cs w)= .next (lone { fr with defers:=ds } cs w'):=by
 refine step_lone_go ?_
 cases hmode:fr.mode with
 |run=>exact aV hmode hm
 |returning=>simp [stepG,unwind,callDeferred,hmode,hd,hi]
 |panicking chain=>simp [stepG,unwind,callDeferred,hmode,hd,hi]
def Lv.del {fn}{R}{F}{ats}{ty}{mt}{n}(hat:ats[0]? =some mt)(ht:P.underlying mt=some (.map kt et))(hp:P.underlying kt=some (.pointer te))(hte:P.info? te=some j)(hsz:j.size≠0)(hK:KeysAt q a es)
 (hq:Le q (pto b (.map ((es++ [(a,v,n)]).map U3).toArray clock)::r)) (K:Lv P G fn R F ds .returning p (pto b (.map (es.map U3).toArray clock)::r)):Lv P G fn R F (Wx.dfDel ats ty cst b a::ds) .returning p q:=by
 intro m w fr cs h1 h2 h3 h4 h5 ag s;have ⟨g,f⟩:=hK G w s;have h:=s.le hq;have k:=h.has (dV _ _ _);have i:=Zqa hp (C2 (v:=v) (n:=n) hp hte hsz g es 0 f);rw [eE] at i
 have d:(es.map U3++ [U3 (a,v,n)]).eraseIdx es.length=es.map U3:=by
  simp_all [List.eraseIdx_append_of_length_le]
 have c:=i;rw [aN] at c
 have b0:(((es++ [(a,v,n)]).map U3).toArray).eraseIdxIfInBounds es.length=(es.map U3).toArray:=by
  grind
 have z:(invoke (.builtin .delete ats ty cst) #[.map (some b),.pointer (some a)]).run P w= .ok (.value (.tuple #[])) { w with heap:=w.heap.setIfInBounds b (.map (es.map U3).toArray clock) } :=by
  simp [invoke,builtin,Builtin.delete_,hat];simp [run_underlying ht,MapKept.run_getObj_map k,Lk hp,show (Instr.findKey kt (.pointer (some a)) (es.map U3++ [U3 (a,v,n)])).run P w= .ok (some (es.length,v)) w from c,Result.andThen,MapKept.run_setObj_map _ k,d]
 have st:=Zz4 (cs:=cs) (by grind) h3 z;have ⟨e,l,c0,q',hR,y,x,u,a0,hl⟩:=K m _ { fr with defers:=ds } cs h1 h2 rfl h4 h5 ag (h.setObjM);grind [Steps.head]
end
end
section
def IterR {τ:Type}(P:Program)(G:World)(gv:Value)(R:τ->List Value->HP->Prop)(xs:List τ)(pre:List HP):Prop:=
 ∀ (l:Nat) (J:Nat->HP) (Jf:HP->Prop),
  (∀ i (h:i<xs.length) vs A,R xs[i] vs A->CallV P G (.func (.yield l) #[] #[]) vs (J i::A::pre) (Ret fun v q=>(v= .bool true/\q=J (i+1)::pre)\/(v= .bool false/\ ∃ B,Jf B/\q=B::pre)))->
  CallV P G gv [.func (.yield l) #[] #[]] (J 0::pre) (Ret fun _ q=>q=J xs.length::pre\/ ∃ B,Jf B/\q=B::pre)
section
variable {P:Program}{G:World}{f:Fc}{Q:Yp}{k:List Item}{p:PE}{ds:List Deferred}{cs:List Frame}{q:List HP}
def Zkc {τ}{g}{ps}{asc bd}{gv}{R:τ->List Value->HP->Prop}{xs}{F}(pre:List HP)(Inv:Nat->List HP)(Jmp:Code->List HP->Prop)(hI:IterR P G gv R xs pre)(hg:evp p g=some gv)(hq:Le q (Inv 0++(pre++F)))
 (hxs: ∀ x vs A,R x vs A->vs.length=ps.length) (hps:ps.all (Nat.blt · f.n)=true) (hf:(P.funcs[f.fn]?).isSome=true) (hro:f.round=none)
 (round: ∀ i (h:i<xs.length) vs A,R xs[i] vs A-> ∀ l rec F₀ cs₀,X P G ⟨f.fn,f.n,.normal,some l⟩ (RQ cs₀ rec l (Inv (i+1)) Jmp (pre++F₀)) [.code asc,.beginRound,.code bd] (Pe ps vs p) [] cs₀ (lp rec l .ready none::(Inv i++(A::(pre++F₀)))))
 (cont: ∀ r,X P G f Q k p (markD r::ds) cs (pto r (.deferred (some []))::(Inv xs.length++(pre++F))))
 (contJ: ∀ r c qs,Jmp c qs->X P G f Q (.code c::k) p (markD r::ds) cs (pto r (.deferred (some []))::(qs++(pre++F)))):
 X P G f Q (.code (.rangeFunc g ps.toArray asc bd)::k) p ds cs q:=by
 refine X.rangeFunc (R':=fun a m=>(a=none/\m=Inv xs.length++pre)\/ ∃ c qs,a=some c/\Jmp c qs/\m=qs++pre) hro hg (by rw [aO];exact hq) (fun l rec d=> ?_) fun r a m h=> ?_
 . have t:=hI l (fun i=>stars (lp rec l .ready none::Inv i)) (fun A=> ∃ c qs,Jmp c qs/\A=stars (lp rec l .done (some c)::qs)) fun i h vs A hR=> ?_
   . refine gY (pre':=stars _::pre) ?_ t ?_
     . rw [show lp rec l .ready none::(Inv 0++pre)=(lp rec l .ready none::Inv 0)++pre from rfl];exact Zh _ _
     rintro e q' ⟨v,rfl,rfl|⟨A,⟨c,qs,b,rfl⟩,rfl⟩⟩
     . exact ⟨lp rec l .ready none::(Inv xs.length++pre),⟨v,rfl,.ready,none,_,Zf,rfl,.inl ⟨rfl,rfl⟩⟩,Zb _ _⟩
     exact ⟨lp rec l .done _::(qs++pre),⟨v,rfl,.done,some c,_,Zf,rfl,.inr ⟨c,qs,rfl,b,rfl⟩⟩,Zb _ _⟩
   refine gY (pre':=lp rec l .ready none::(Inv i++(A::pre))) (Zb _ (A::pre))
    (CallV.yield (R:=Ret fun v q=>(v= .bool true/\q=lp rec l .ready none::(Inv (i+1)++pre))\/(v= .bool false/\ ∃ c qs,Jmp c qs/\q=lp rec l .done (some c)::(qs++pre))) d hps (by simpa using hxs _ _ _ hR) hf (fun F₀ cs₀=> ?_)) ?_
   . intro tm w hn ha s;have ⟨o,j,p',b0,c0,w',q',⟨a0,z,u⟩,h1,h2,h3,h4⟩:=round i h vs A hR l rec F₀ cs₀ tm w hn ha (by rw [aO] at s;exact s);refine ⟨o,j,p',b0,c0,w',q',⟨a0,z,?_⟩,h1,h2,h3,h4⟩
     cases o with
     |fall=>exact ⟨Inv (i+1)++pre,⟨_,rfl,.inl ⟨rfl,rfl⟩⟩,by rw [aO];exact u⟩
     |jump c=>have ⟨qs,b,y⟩:=u;exact ⟨qs++pre,⟨_,rfl,.inr ⟨rfl,c,qs,b,rfl⟩⟩,by rw [aO];exact y⟩
     |panic ch=>exact u.elim
   rintro e q' ⟨v,rfl,⟨rfl,rfl⟩|⟨rfl,c,qs,b,rfl⟩⟩
   . exact ⟨stars _::pre,⟨_,rfl,.inl ⟨rfl,rfl⟩⟩,Zh (lp rec l .ready none::Inv (i+1)) pre⟩
   exact ⟨stars _::pre,⟨_,rfl,.inr ⟨rfl,_,⟨c,qs,b,rfl⟩,rfl⟩⟩,Zh (lp rec l .done _::qs) pre⟩
 rcases h with ⟨rfl,rfl⟩|⟨c,qs,rfl,b,rfl⟩
 . grind
 grind
end
end
section
variable {d:Option Tmp}{b sz:Nat}{us:List Value}
section
variable {P:Program}{G:World}{f:Fc}{Q:Yp}{ops:List Oper}{k:List Item}{rest:List Oper}{ds:List Deferred}{cs:List Frame}{p:PE}{q r:List HP}{ty:TypeId}{pos:String}{af:Array Edge}{gd:Option (Nat×Bool)}{x y:Operand}{t:TypeId}
def Ig {o}(hx:evp p x=some (.pointer (some ⟨b,o,none⟩)))(ht: ∀ w,(isAgg t).run P w= .ok true w)(hs: ∀ w,(Go.sizeOf t).run P w= .ok sz w)(hl:us.length=sz)
 (hc:CellsAt q b o us):Rd P G p q ⟨d,.load t x,ty,pos,af,gd⟩ (.agg us.toArray):=fun e w c s=>by
 have hc:=run_loadCells_list (P:=P) w ⟨b,o,none⟩ us (fun j u a=>by rw [Vu];exact hc j u a G w s);rw [hl] at hc;simp [execOp,Zu c hx,Instr.loadAt,Instr.sureAddr,loadVar,ht,hs,hc]
def H2 {d:Tmp}{o}(ht: ∀ w,(isAgg t).run P w= .ok true w)(hs: ∀ w,(Go.sizeOf t).run P w= .ok sz w)(hl:us.length=sz)(hc:CellsAt q b o us)(K:XO P G f Q ops.toArray k rest ((d,.agg us.toArray)::p) ds cs q)
 (hx:evp p x=some (.pointer (some ⟨b,o,none⟩)):=by rfl) (hw:Wt ops p ⟨some d,.load t x,ty,pos,af,gd⟩=some true:=by rfl) (hd:Nat.blt d f.n=true:=by rfl):
 XO P G f Q ops.toArray k (⟨some d,.load t x,ty,pos,af,gd⟩::rest) p ds cs q:= .rd (Ig hx ht hs hl hc) K hw hd
def Rd.efE {o}{v}(h:Rd P G p q o v)(E:List HP):Ef P G p (q++E) o fun v' q'=> ∃ q1,(v'=v/\q1=q)/\q'=q1++E:=fun tm w ag s=>
 ⟨v,w,q++E,.inl (h tm w ag (s.le (Wi q E))),s,q,⟨rfl,rfl⟩,rfl⟩
def I4 {α}{fl}{l}{a:Option Addr}{c et}{u:α}{n g:Nat}{j:Int}(hx:evp p x=some (.pointer (some ⟨g,0+j.toNat*sz,none⟩)))(hy:evp p y=some (.agg (fl u).toArray))(hsz: ∀ w,(Go.sizeOf t).run P w= .ok sz w)(hf: ∀ x,(fl x).length=sz)
 (hj:j=n) (hn:n<l.length) (h1:(fl u).all (·.oneCell')=true) (hq:Le q (Wx.rsH fl sz et (some ⟨g,0,none⟩) c l::r)):
 Ef P G p q ⟨d,.store t x y,ty,pos,af,gd⟩ fun z q'=>z=undef/\q'=Wx.rsH fl sz et (some ⟨g,0,none⟩) c (l.set n u)::r:=by
 subst hj;rw [cG,eE] at hx;intro f w ag s;obtain ⟨h0,h2|⟨g',b,o,m,k,q4,i,h⟩⟩:=(s.le hq).slH_elim
 . omega
 cases o
 have a0:n*sz+sz<=l.length*sz:=by
  have:=eQ sz (hn);grind
 have hc:n*sz+sz<=b.size:=by grind
 obtain ⟨z,e,q',hr,hs,rfl,rfl⟩:=Ef.storeA (q:=pto g (.cells b.toList.toArray et (0,0))::r) hx hy hsz (hf u) h1 (Le.here _ _) (by simp_all) f w ag (by simpa using h);refine ⟨_,e,_,hr,?_,rfl,rfl⟩;have hl:(l.set n u).length=l.length:=Zf;unfold Wx.rsH;rw [hl];have b0:b.toList.length=c*sz:=Zq
 have v:(Uw b.toList (n*sz) (fl u)).length=b.toList.length:=by
  grind [Uw]
 refine hs.le (Yo m k (by grind) ?_ r)
 have e1:(l.set n u).flatMap fl=(l.flatMap fl).take (n*sz)++fl u++(l.flatMap fl).drop (n*sz+sz):=by
  rw [Ul hf,show n*sz+sz=(n+1)*sz by grind,Rj hf,eW,if_pos hn,eJ,cM,aO]
 unfold Uw;rw [hf];have hA:(b.toList.take (n*sz)).length=n*sz:=by grind
 apply kM;grind
end
end
section
section
variable {P:Program}{G:World}{f:Fc}{Q:Yp}{ops:List Oper}{k:List Item}{pk p:PE}{fl:List FlE}{L:Rds}{n:Nat}{done:List Nat}{ds:List Deferred}{cs:List Frame}{q r:List HP}{op:Op}{ty:TypeId}{pos:String}{af:Array Edge}{gd:Option (Nat×Bool)}{x y:Operand}{t:TypeId}
def Rt (j:Nat){R:Value->List HP->Prop}(hE: ∀ E,Ef P G p (q++E) ⟨none,op,ty,pos,af,gd⟩ fun v q'=> ∃ q1,R v q1/\q'=q1++E)
 (K: ∀ v q1,R v q1->HL q1 (cut ⟨none,op,ty,pos,af,gd⟩ L)/\XF P G f Q ops k pk fl (cut ⟨none,op,ty,pos,af,gd⟩ L) n (j::done) p ds cs q1)
 (ho:ops[j]? =some ⟨none,op,ty,pos,af,gd⟩:=by rfl) (hif:(fl.map (·.i)).contains j=false:=by rfl) (hr:rdy ops done j=true:=by rfl) (hw:Wt ops p ⟨none,op,ty,pos,af,gd⟩=some true:=by rfl):StepOk P G f Q ops k pk fl L n done p ds cs q j:=
 ⟨_,R,ho,hE,K,hif,hr,hw,rfl⟩
def Xi {α}{fl:α->List Value}{l}{c sz et}{u}{n g:Nat}{j:Int}{d}(hx:evp p x=some (.pointer (some ⟨g,0+j.toNat*sz,none⟩)))(hy:evp p y=some (.agg (fl u).toArray))(hsz: ∀ w,(Go.sizeOf t).run P w= .ok sz w)(hf: ∀ x,(fl x).length=sz)
 (hj:j=n) (hn:n<l.length) (h1:(fl u).all (·.oneCell')=true) (hq:Le q (Wx.rsH fl sz et (some ⟨g,0,none⟩) c l::r)) (E:List HP):
 Ef P G p (q++E) ⟨d,.store t x y,ty,pos,af,gd⟩ fun z q'=> ∃ q1,(z=undef/\q1=Wx.rsH fl sz et (some ⟨g,0,none⟩) c (l.set n u)::r)/\q'=q1++E:=by
 intro b w h s;have ⟨v,i,q',f,e,m,k⟩:=I4 (d:=d) (ty:=ty) (pos:=pos) (af:=af) (gd:=gd) (a:=none) (r:=r++E) hx hy hsz hf hj hn h1 (hq.liftR E) b w h s;grind
def Kn.im {b}{o}:Kn (Wx.im b o::q) fun M=>M b=some o:=fun _ _ ⟨_,_,_,_,_,p,_⟩=>p
end
end
end Wx
namespace Go.Proofs.YtadahhbefdnabaaGreatDoor
open Go Go.RowKit Wx Go.Proofs.Tryz
variable {a:Option Addr}{c n:Nat}{M M':Hp}{q q0:List HP}{k slot op:Int}{nm b:ByteArray}{loc:Bool}{s:Bs}
structure Tk where
 k:Int
 t:ByteArray
 n:Int
 ln:Int
 cl:Int
variable {L:List Tk}
def tkC (x:Tk):List Value:= [I64 x.k,.string x.t,I64 x.n,I64 x.ln,I64 x.cl]
def Zwn (c:UInt8):Bool:=decide (97<=c.toNat) && decide (c.toNat<=122)
def H1 (c:UInt8):Bool:=decide (48<=c.toNat) && decide (c.toNat<=57)
def Fz (c:UInt8):Bool:=Zwn c||H1 c
def wordsS:List Bs:= [[118,97,114], [97,114,114,97,121], [109,117,116,101,120], [99,111,110,100], [99,104,97,110], [116,104,114,101,97,100], [108,101,116], [105,102], [101,108,115,101], [119,104,105,108,101], [108,111,99,107], [117,110,108,111,99,107], [119,97,105,116], [115,105,103,110,97,108], [97,108,108], [115,101,110,100], [114,101,99,118], [115,112,97,119,110], [106,111,105,110], [112,114,105,110,116]]
def signsS:List Bs:= [[61,61], [33,61], [60,61], [38,38], [124,124], [59], [40], [41], [123], [125], [91], [93], [61], [60], [43], [45], [42], [47], [37], [33]]
def kwS (w:Bs):Bool:=wordsS.any (· ==w)
def R6 (w:Bs):Int:=w.foldl (fun n c=>n*10+((c.toNat:Int) - 48)) 0
def Zjf (w:Bs):Option Int:=if w.all H1 && decide (w.length<=10) then (if R6 w<=2147483647/\(w.length=1\/w.getD 0 0≠48) then some (R6 w) else none) else none
def Dt (l:Bs):Nat:=(l.takeWhile Fz).length
def Zqw (l:Bs):Option (Int×Bs×Int):=
 let w:=l.take (Dt l)
 if 0<Dt l/\H1 (l.getD 0 0)=true then (match Zjf w with|some x=>some (2,w,x)|none=>none)
 else if 0<Dt l/\kwS w=true then some (3,w,0)
 else if 16<Dt l then none
 else if 0<Dt l then some (1,w,0)
 else match signsS.find? (fun s=>s==l.take s.length) with
  |some s=>some (4,s,0)
  |none=>none
def Nf:Nat->Bs->Int->Int->Option (List Tk)
 |0,_,_,_=>none
 |_+1, [],_,_=>some []
 |f+1,c::r,ln,cl=>
  if c=10 then Nf f r (ln+1) 1
  else if c=32\/c=9\/c=13 then Nf f r ln (cl+1)
  else if c=35 then Nf f ((c::r).dropWhile (· !=10)) ln (cl+((c::r).takeWhile (· !=10)).length)
  else match Zqw (c::r) with
   |none=>none
   |some (k,w,n)=>(Nf f ((c::r).drop w.length) ln (cl+w.length)).map (⟨k,ba w,n,ln,cl⟩:: ·)
inductive PEx where
 |mk (k n:Int) (nm:ByteArray) (slot:Int) (loc:Bool) (op:Int) (args:List PEx)
inductive PStm where
 |mk (k ln cl:Int) (nm wt:ByteArray) (e ix:PEx) (body els:List PStm) (id slot other:Int) (loc:Bool)
structure PDec where
 k:Int
 ln:Int
 cl:Int
 nm:ByteArray
 n:Int
 body:List PStm
def PEx.z:PEx:= .mk 0 0 em 0 false 0 []
def isW (s:Bs):List Tk->Bool
 |t::_=>bs t.t==s && decide (3<=t.k)
 | []=>false
def tkW (s:Bs)(ts:List Tk):Option (List Tk):=if isW s ts=true then some ts.tail else none
def Un (s:Bs)(ts:List Tk):Option (Unit×List Tk):=if isW s ts=true then some ((),ts.tail) else none
def bnd {α β:Type}(A:Option (α×List Tk))(K:α->List Tk->Option β):Option β:=match A with
 |none=>none
 |some (x,r)=>K x r
def Hm:List Tk->Option (ByteArray×List Tk)
 |t::r=>if t.k=1 then some (t.t,r) else none
 | []=>none
def H5:List Tk->Option (Int×List Tk)
 |t::r=>if t.k=2 then some (t.n,r) else none
 | []=>none
def rankL:List Int:= [0,1,2,3,3,3,3,4,4,5,5,5]
def signL:List Bs:= [[], [124,124], [38,38], [61,61], [33,61], [60], [60,61], [43], [45], [42], [47], [37]]
def Cd (n:Int)(ts:List Tk):List Nat->Nat
 | []=>0
 |op::r=>if rankL.getD op 0=n/\isW (signL.getD op []) ts=true then op else Cd n ts r
def Jo (n:Int)(ts:List Tk):Nat:=Cd n ts [1,2,3,4,5,6,7,8,9,10,11]
mutual
def Ve:Nat->Int->List Tk->Option (PEx×List Tk)
 |0,_,_=>none
 |f+1,n,ts=>if 5<n then unS f ts else match Ve f (n+1) ts with
  |none=>none
  |some (e,r)=>Rl f n e r
def Rl:Nat->Int->PEx->List Tk->Option (PEx×List Tk)
 |0,_,_,_=>none
 |f+1,n,e,ts=>if Jo n ts=0 then some (e,ts) else match Ve f (n+1) ts.tail with
  |none=>none
  |some (x,r)=>if n=3 then some (.mk 6 0 em 0 false (Jo n ts) [e,x],r) else Rl f n (.mk 6 0 em 0 false (Jo n ts) [e,x]) r
def unS:Nat->List Tk->Option (PEx×List Tk)
 |0,_=>none
 |f+1,ts=>match tkW [45] ts with
  |some r=>(match unS f r with
   |none=>none
   |some (e,r2)=>some (.mk 4 0 em 0 false 0 [e],r2))
  |none=>match tkW [33] ts with
   |some r=>(match unS f r with
    |none=>none
    |some (e,r2)=>some (.mk 5 0 em 0 false 0 [e],r2))
   |none=>Q0 f ts
def Q0:Nat->List Tk->Option (PEx×List Tk)
 |0,_=>none
 |f+1,ts=>match tkW [40] ts with
  |some r=>(match Ve f 1 r with
   |none=>none
   |some (e,r2)=>match tkW [41] r2 with
    |none=>none
    |some r3=>some (e,r3))
  |none=>match H5 ts with
   |some (n,r)=>some (.mk 1 n em 0 false 0 [],r)
   |none=>match Hm ts with
    |none=>none
    |some (nm,r)=>match tkW [91] r with
     |none=>some (.mk 2 0 nm 0 false 0 [],r)
     |some r2=>match Ve f 1 r2 with
      |none=>none
      |some (e,r3)=>match tkW [93] r3 with
       |none=>none
       |some r4=>some (.mk 3 0 nm 0 false 0 [e],r4)
end
def kindL:List Bs:= [[], [108,101,116], [], [], [105,102], [119,104,105,108,101], [108,111,99,107], [117,110,108,111,99,107], [119,97,105,116], [115,105,103,110,97,108], [97,108,108], [115,101,110,100], [114,101,99,118], [115,112,97,119,110], [106,111,105,110], [112,114,105,110,116]]
def Ms (L:List Bs)(ts:List Tk):Nat->Nat
 |0=>0
 |k+1=>if L.getD (k+1) []≠ []/\isW (L.getD (k+1) []) ts=true then k+1 else Ms L ts k
def U8 (ts:List Tk):Nat:=Ms kindL ts 15
def Z0:List Tk->Int×Int
 |t::_=>(t.ln,t.cl)
 | []=>(0,0)
def Qe (f:Nat)(k:Int)(p:Int×Int)(nm:ByteArray)(ts:List Tk):Option (PStm×List Tk):=
 if k=0 then (if isW [91] ts=true then bnd (Ve f 1 ts.tail) fun ix r=>bnd (Un [93] r) fun _ r=>bnd (Un [61] r) fun _ r=>bnd (Ve f 1 r) fun e r=>bnd (Un [59] r) fun _ r=>some (.mk 3 p.1 p.2 nm em e ix [] [] 0 0 0 false,r)
  else bnd (Un [61] ts) fun _ r=>bnd (Ve f 1 r) fun e r=>bnd (Un [59] r) fun _ r=>some (.mk 2 p.1 p.2 nm em e .z [] [] 0 0 0 false,r))
 else if k=1 then bnd (Un [61] ts) fun _ r=>bnd (Ve f 1 r) fun e r=>bnd (Un [59] r) fun _ r=>some (.mk k p.1 p.2 nm em e .z [] [] 0 0 0 false,r)
 else if k=8\/k=12 then bnd (Hm ts) fun wt r=>bnd (Un [59] r) fun _ r=>some (.mk k p.1 p.2 nm wt .z .z [] [] 0 0 0 false,r)
 else if k=11\/k=15 then bnd (Ve f 1 ts) fun e r=>bnd (Un [59] r) fun _ r=>some (.mk k p.1 p.2 nm em e .z [] [] 0 0 0 false,r)
 else bnd (Un [59] ts) fun _ r=>some (.mk k p.1 p.2 nm em .z .z [] [] 0 0 0 false,r)
mutual
def Hf:Nat->List Tk->Option (PStm×List Tk)
 |0,_=>none
 |f+1,ts=>
  if U8 ts=4\/U8 ts=5 then bnd (Ve f 1 ts.tail) fun e r=>bnd (Tz f r) fun b r=>
   if U8 ts=4/\isW [101,108,115,101] r=true then bnd (Tz f r.tail) fun b2 r=>some (.mk (U8 ts) (Z0 ts).1 (Z0 ts).2 em em e .z b b2 0 0 0 false,r)
   else some (.mk (U8 ts) (Z0 ts).1 (Z0 ts).2 em em e .z b [] 0 0 0 false,r)
  else if U8 ts=14\/U8 ts=15 then Qe f (U8 ts) (Z0 ts) em ts.tail
  else bnd (Hm (if 0<U8 ts then ts.tail else ts)) fun nm r=>Qe f (U8 ts) (Z0 ts) nm r
def Tz:Nat->List Tk->Option (List PStm×List Tk)
 |0,_=>none
 |f+1,ts=>bnd (Un [123] ts) fun _ r=>bnd (Jw f r) fun l r=>bnd (Un [125] r) fun _ r=>some (l,r)
def Jw:Nat->List Tk->Option (List PStm×List Tk)
 |0,_=>none
 |f+1,ts=>if isW [125] ts=true then some ([],ts) else bnd (Hf f ts) fun s r=>bnd (Jw f r) fun l r=>some (s::l,r)
end
def declL:List Bs:= [[], [118,97,114], [97,114,114,97,121], [109,117,116,101,120], [99,111,110,100], [99,104,97,110], [116,104,114,101,97,100]]
def dkS (ts:List Tk):Nat:=Ms declL ts 6
def L7 (k:Nat)(ts:List Tk):Option (Int×List Tk):=
 if k=1 then bnd (Un [61] ts) fun _ r=>if isW [45] r=true then bnd (H5 r.tail) fun n r=>some (-n,r) else H5 r
 else if k=2\/k=5 then H5 ts else some (0,ts)
def Ni (f:Nat)(ts:List Tk):Option (PDec×List Tk):=
 if dkS ts=0 then none else bnd (Hm ts.tail) fun nm r=>
  if dkS ts=6 then bnd (Tz f r) fun b r=>some (⟨dkS ts,(Z0 ts).1,(Z0 ts).2,nm,0,b⟩,r)
  else bnd (L7 (dkS ts) r) fun n r=>bnd (Un [59] r) fun _ r=>some (⟨dkS ts,(Z0 ts).1,(Z0 ts).2,nm,n, []⟩,r)
def Qa (g:Nat):Nat->List Tk->Option (List PDec)
 |0,_=>none
 |f+1,ts=>if ts= [] then some [] else bnd (Ni g ts) fun d r=>(Qa g f r).map (d:: ·)
mutual
def PEx.dep:PEx->Nat
 | .mk _ _ _ _ _ _ args=>Ys args+1
def Ys:List PEx->Nat
 | []=>0
 |e::r=>max e.dep (Ys r)
end
mutual
def PStm.deep:PStm->Nat->Bool
 | .mk _ _ _ _ _ e ix body els _ _ _ _,n=>decide (24<n)||decide (24<e.dep)||decide (24<ix.dep)||Wz body (n+1)||Wz els (n+1)
def Wz:List PStm->Nat->Bool
 | [],_=>false
 |s::r,n=>s.deep n||Wz r n
end
def Kd (l:Bs):Option (List PDec):=
 if 65536<l.length then none else match Nf (l.length+1) l 1 1 with
  |none=>none
  |some ts=>match Qa (10*ts.length+20) (ts.length+1) ts with
   |none=>none
   |some ds=>if ds.any (fun d=>Wz d.body 1)=true then none else some ds
inductive Ex where
 |mk (k n:Int) (nm:ByteArray) (slot:Int) (loc:Bool) (op:Int) (args:List Ex) (aa:Option Addr) (ac:Nat)
variable {e:Ex}
def exC:Ex->List Value
 | .mk k n nm slot loc op args aa ac=> [I64 k,I64 n,.string nm,I64 slot,.bool loc,I64 op,.slice aa args.length ac]
inductive Stm where
 |mk (k ln cl:Int) (nm wt:ByteArray) (e ix:Ex) (body els:List Stm) (ba:Option Addr) (bc:Nat) (ea:Option Addr) (ec:Nat) (id slot other:Int) (loc:Bool)
variable {m:List Stm}
def stC:Stm->List Value
 | .mk k ln cl nm wt e ix body els ba bc ea ec id slot other loc=> [I64 k,I64 ln,I64 cl,.string nm,.string wt]++(exC e++(exC ix++ [.slice ba body.length bc,.slice ea els.length ec,I64 id,I64 slot,I64 other,.bool loc]))
structure Dec where
 k:Int
 ln:Int
 cl:Int
 nm:ByteArray
 n:Int
 body:List Stm
 ba:Option Addr
 bc:Nat
def dcC (d:Dec):List Value:= [I64 d.k,I64 d.ln,I64 d.cl,.string d.nm,I64 d.n,.slice d.ba d.body.length d.bc]
def Yn (e:Ex):(exC e).length=7:=by cases e;rfl
def Z7 (s:Stm):(stC s).length=25:=by cases s;simp [stC,Yn]
def Zqs (e:Ex):(exC e).all (·.oneCell')=true:=by cases e;rfl
def Mz (s:Stm):(stC s).all (·.oneCell')=true:=by cases s;simp only [stC,lC,Zqs];rfl
mutual
def Ex.er:Ex->PEx
 | .mk k n nm slot loc op args _ _=> .mk k n nm slot loc op (Yj args)
def Yj:List Ex->List PEx
 | []=> []
 |e::r=>e.er::Yj r
end
mutual
def Stm.er:Stm->PStm
 | .mk k ln cl nm wt e ix body els _ _ _ _ id slot other loc=> .mk k ln cl nm wt e.er ix.er (Zk body) (Zk els) id slot other loc
def Zk:List Stm->List PStm
 | []=> []
 |s::r=>s.er::Zk r
end
def Dec.er (d:Dec):PDec:=⟨d.k,d.ln,d.cl,d.nm,d.n,Zk d.body⟩
mutual
def Ex.At (M:Hp):Ex->Prop
 | .mk _ _ _ _ _ _ args aa ac=>SlAt M aa ac args.length (args.flatMap exC)/\Ex.Ats M args
def Ex.Ats (M:Hp):List Ex->Prop
 | []=>True
 |e::r=>e.At M/\Ex.Ats M r
end
mutual
def Stm.At (M:Hp):Stm->Prop
 | .mk _ _ _ _ _ e ix body els ba bc ea ec _ _ _ _=>e.At M/\ix.At M/\(SlAt M ba bc body.length (body.flatMap stC)/\Stm.Ats M body)/\SlAt M ea ec els.length (els.flatMap stC)/\Stm.Ats M els
def Stm.Ats (M:Hp):List Stm->Prop
 | []=>True
 |s::r=>s.At M/\Stm.Ats M r
end
mutual
def Ex.At.mono {M M'}(l:Hle M M'): ∀ {e:Ex},e.At M->e.At M'
 | .mk ..,⟨h,k⟩=>⟨h.mono l,Ex.Ats.mono l k⟩
def Ex.Ats.mono {M M'}(l:Hle M M'): ∀ {e},Ex.Ats M e->Ex.Ats M' e
 | [],_=>trivial
 |_::_,⟨h,k⟩=>⟨Ex.At.mono l h,Ex.Ats.mono l k⟩
end
abbrev jS:=@Ex.Ats.mono
mutual
def Stm.At.mono {M M'}(l:Hle M M'): ∀ {e:Stm},e.At M->e.At M'
 | .mk ..,⟨h1,h2,⟨h3,h4⟩,h5,h6⟩=>⟨h1.mono l,h2.mono l,⟨h3.mono l,Stm.Ats.mono l h4⟩,h5.mono l,Stm.Ats.mono l h6⟩
def Stm.Ats.mono {M M'}(l:Hle M M'): ∀ {e},Stm.Ats M e->Stm.Ats M' e
 | [],_=>trivial
 |_::_,⟨h,k⟩=>⟨Stm.At.mono l h,Stm.Ats.mono l k⟩
end
abbrev kH:=@Stm.Ats.mono
def Ub {M}: ∀ {l},Ex.Ats M l↔ ∀ e∈l,e.At M
 | []=>by simp [Ex.Ats]
 |e::r=>by simp [Ex.Ats,Ub]
def Uk {M}: ∀ {l},Stm.Ats M l↔ ∀ e∈l,e.At M
 | []=>by simp [Stm.Ats]
 |e::r=>by simp [Stm.Ats,Uk]
def Ww: ∀ l:List Ex,Yj l=l.map Ex.er
 | []=>rfl
 |e::r=>by simp [Yj,Ww r]
def Yl: ∀ l:List Stm,Zk l=l.map Stm.er
 | []=>rfl
 |e::r=>by simp [Zk,Yl r]
def Ko (l:List Ex):(Yj l).length=l.length:=by rw [Ww];simp
def Wr (l:List Stm):(Zk l).length=l.length:=by rw [Yl];simp
mutual
def Ex.sz:Ex->Nat
 | .mk _ _ _ _ _ _ args _ _=>Wo args+1
def Wo:List Ex->Nat
 | []=>0
 |e::r=>e.sz+Wo r
end
mutual
def Stm.sz:Stm->Nat
 | .mk _ _ _ _ _ _ _ body els _ _ _ _ _ _ _ _=>Zn body+Zn els+1
def Zn:List Stm->Nat
 | []=>0
 |s::r=>s.sz+Zn r
end
def Wd {e}: ∀ {l},e∈l->e.sz<=Wo l
 |x::r,h=>by
  rcases bS.1 h with rfl|h
  . simp [Wo]
  have:=Wd h;simp [Wo];omega
def Qx {e}: ∀ {l},e∈l->e.sz<=Zn l
 |x::r,h=>by
  rcases bS.1 h with rfl|h
  . simp [Zn]
  have:=Qx h;simp [Zn];omega
def exM (e:Ex):HP:=lst (fun M=>e.At M) fun l h=>Ex.At.mono l h
def exsM (l:List Ex):HP:=lst (fun M=>Ex.Ats M l) fun l h=>jS l h
def stM (s:Stm):HP:=lst (fun M=>s.At M) fun l h=>Stm.At.mono l h
def stsM (l:List Stm):HP:=lst (fun M=>Stm.Ats M l) fun l h=>kH l h
def BlkAt (M:Hp)(a:Option Addr)(c:Nat)(l:List Stm):Prop:=SlAt M a c l.length (l.flatMap stC)/\Stm.Ats M l
def BlkAt.mono {l}(e:Hle M M')(h:BlkAt M a c l):BlkAt M' a c l:=⟨h.1.mono e,h.2.mono e⟩
abbrev lE:=@BlkAt.mono
def blM (a:Option Addr)(c:Nat)(l:List Stm):HP:=lst (fun M=>BlkAt M a c l) lE
def Dec.At (M:Hp)(d:Dec):Prop:=BlkAt M d.ba d.bc d.body
def Dec.At.mono {d:Dec}(e:Hle M M')(h:d.At M):d.At M':=lE e h
def Decs.At (M:Hp)(l:List Dec):Prop:= ∀ d∈l,d.At M
def Decs.At.mono {l}(e:Hle M M')(h:Decs.At M l):Decs.At M' l:=fun d hd=>(h d hd).mono e
def dcM (d:Dec):HP:=lst (fun M=>d.At M) Dec.At.mono
def dcsM (l:List Dec):HP:=lst (fun M=>Decs.At M l) Decs.At.mono
section
variable {ty:Nat}{l:List Ex}
def Kn.ex1 {n}(h:Kn q fun M=>e.At M):Kn (lst (fun M=>SlAt M a c 1 ([e].flatMap exC)) fD::q) fun M=>(Ex.mk k n nm slot loc op [e] a c).At M:=
 (Kn.here.and h.there).imp fun M h=>⟨h.1,h.2,trivial⟩
def Kn.ex2 {n}{e2}(h:Kn q fun M=>e.At M)(h2:Kn q fun M=>e2.At M):Kn (lst (fun M=>SlAt M a c 2 ([e,e2].flatMap exC)) fD::q) fun M=>(Ex.mk k n nm slot loc op [e,e2] a c).At M:=
 (Kn.here.and (h.there.and h2.there)).imp fun M h=>⟨h.1,h.2.1,h.2.2,trivial⟩
def Kn.exM {e}:Kn (exM e::q) fun M=>e.At M:=fJ
def Kn.stsM:Kn (stsM m::q) fun M=>Stm.Ats M m:=fJ
def Kn.stM {s}:Kn (stM s::q) fun M=>s.At M:=fJ
def Kn.dcM {s}:Kn (dcM s::q) fun M=>s.At M:=fJ
def Kn.dcsM {s}:Kn (dcsM s::q) fun M=>Decs.At M s:=fJ
def Le.ex0 (k n:Int)(nm:ByteArray)(slot:Int)(loc:Bool)(op:Int):Le q (Go.Proofs.YtadahhbefdnabaaGreatDoor.exM (Ex.mk k n nm slot loc op [] none 0)::q):=dP (fun M _ _=>⟨SlAt.nil M,trivial⟩)
def Nv:Le q (Go.Proofs.YtadahhbefdnabaaGreatDoor.stsM []::q):=dP (fun _ _ _=>trivial)
def N2 {s}:Le (Go.Proofs.YtadahhbefdnabaaGreatDoor.stsM m::Go.Proofs.YtadahhbefdnabaaGreatDoor.stM s::q) (Go.Proofs.YtadahhbefdnabaaGreatDoor.stsM (m++ [s])::q):=by
 have h:Kn (Go.Proofs.YtadahhbefdnabaaGreatDoor.stsM m::Go.Proofs.YtadahhbefdnabaaGreatDoor.stM s::q) fun M=>Stm.Ats M _:=(Kn.stsM.and Kn.stM.there).imp fun M h=>Uk.2 fun x a=>by
  rcases bP.1 a with a|a
  . exact Uk.1 h.1 x a
  rw [bE.1 a];exact h.2
 exact aK (dP h) (cC _ ((dS _ _).trans (dS _ _)))
def Zxa:Le q (Go.Proofs.YtadahhbefdnabaaGreatDoor.dcsM []::q):=dP (fun _ _ _ d a=>by cases a)
def Zvw {s}{m}:Le (Go.Proofs.YtadahhbefdnabaaGreatDoor.dcsM m::Go.Proofs.YtadahhbefdnabaaGreatDoor.dcM s::q) (Go.Proofs.YtadahhbefdnabaaGreatDoor.dcsM (m++ [s])::q):=by
 have h:Kn (Go.Proofs.YtadahhbefdnabaaGreatDoor.dcsM m::Go.Proofs.YtadahhbefdnabaaGreatDoor.dcM s::q) fun M=>Decs.At M _:=(Kn.dcsM.and Kn.dcM.there).imp fun M h x a=>by
  rcases bP.1 a with a|a
  . exact h.1 x a
  rw [bE.1 a];exact h.2
 exact aK (dP h) (cC _ ((dS _ _).trans (dS _ _)))
theorem Kn.blk (h:Kn q fun M=>Stm.Ats M m):Kn (lst (fun M=>SlAt M a c m.length (m.flatMap stC)) fD::q) fun M=>BlkAt M a c m:=Kn.here.and h.there
end
def isW_at (h:n<L.length):isW s (L.drop n)=(bs L[n].t==s && decide (3<=L[n].k)):=by rw [aP h];rfl
def Zbv (h:L.length<=n):isW s (L.drop n)=false:=by rw [cN h];rfl
def Zwp (h:isW s (L.drop n)=true):n<L.length:=by
 rcases dN n L.length with k|k
 . exact k
 rw [Zbv k] at h;cases h
def gD {α:Type}{l:List α}{i}{d}(h:i<l.length):l.getD i d=l[i]:=by simp [aB h]
def sEq {a}:a.toList=b.toList↔bs a=bs b:=by rw [ByteArray.toList_eq,ByteArray.toList_eq];rfl
def sNe {a}(h: ¬a.toList=b.toList):(bs a==bs b)=false:=by rw [dD];exact fun e=>h (sEq.2 e)
def sTr {a}(h:a.toList=b.toList):(bs a==bs b)=true:=by rw [fH];exact sEq.1 h
def tail_drop :(L.drop n).tail=L.drop (n+1):=by rw [List.tail_drop]
def Out {α:Type}(L:List Tk)(bad:Bool)(sp:Option (α×List Tk))(x:α)(n:Nat)(bad':Bool):Prop:=(bad'=false/\bad=false/\sp=some (x,L.drop n))\/(bad'=true/\(bad=true\/sp=none))
abbrev rdH (p:Nat)(la:Option Addr)(lc:Nat)(L:List Tk)(n:Nat)(bad:Bool):HP:=pC p [.slice la L.length lc,I64 n,.bool bad] 302
section
variable {P:Program}{G:World}{fr:Fc}{Q:Yp}{todo k:List Item}{p:PE}{ds:List Deferred}{cs:List Frame}{ops lo:List Oper}{x:Ex}{kd n:Int}
def Zxh (K:X P G fr Q todo p ds cs (exM (.mk kd n nm slot loc op [e] a c)::q0))(hq:Le q (rsH exC 7 136 a c [e]::q0):=by exact Zj)(he:Kn q0 fun M=>e.At M:=by exact knA):X P G fr Q todo p ds cs q:= .frzR (Kn.ex1 he) K hq
def X.fzE2 (K:X P G fr Q todo p ds cs (exM (.mk kd n nm slot loc op [e,x] a c)::q0))(hq:Le q (rsH exC 7 136 a c [e,x]::q0):=by exact Zj)(he:Kn q0 fun M=>e.At M:=by exact knA)(hx:Kn q0 fun M=>x.At M:=by exact knA):X P G fr Q todo p ds cs q:= .frzR (Kn.ex2 he hx) K hq
def X.fzB (K:X P G fr Q todo p ds cs (blM a c m::q0))(hq:Le q (rsH stC 25 138 a c m::q0):=by exact Zj)(h:Kn q0 fun M=>Stm.Ats M m:=by exact knA):X P G fr Q todo p ds cs q:= .frzR (Kn.blk h) K hq
end
end Go.Proofs.YtadahhbefdnabaaGreatDoor
namespace Go.Proofs.YtadahhbefdnabaaGreatDoor
open Go Go.RowKit Wx Go.Proofs.Tryz
attribute [local irreducible] lsH rsH stars
variable {G:World}{q pre:List HP}{a la A:Option Addr}{c lc p n f bc:Nat}{bad b1 b2:Bool}{s nm:ByteArray}{L ts:List Tk}{r k ln cl:Int}{S:Option (List PStm×List Tk)}{e:Ex}{body:List Stm}{P:Program}{fr:Fc}{Q:Yp}{todo:List Item}{ds:List Deferred}{cs:List Frame}{l:List PStm}
section
def Zje (hr:Has q p (.cells [.slice la L.length lc,I64 n,.bool bad].toArray 302 (0,0)))(hL:Sees q la (L.flatMap tkC))(hn:L.length<=65536):CR G 217 [pt p,.string s] (q) (.bool (!bad && isW (bs s) (L.drop n))):=by
 refine aE ntmps217 fun F cs=> ?_;refine rn [5,0,1,2,3] ?_;refine ldD 3 ?_ (hc:=(fC (hr.le leA) rfl));refine Ye<|eY 10 rfl ?_ ?_<;>intro c
 . replace c:=sp c;apply dd [6,7,8];refine ldD 9 ?_ (hc:=(fC (hr.le leA) rfl));apply dd [10,11,12];refine ldD 13 ?_ (hc:=(fC (hr.le leA) rfl));refine Zz<|eY 22 rfl ?_ ?_<;>intro d
   . replace d:=sp d;apply dd [18,19,20];refine ldD 21 ?_ (hc:=(fC (hr.le leA) rfl));apply dd [22,23,24];refine ldD 25 ?_ (hc:=(fC (hr.le leA) rfl));refine Rh hL (by rw [Zx (f:=tkC) (sz:=5) (fun _=>rfl) L];omega) fun b1 o1 g=> ?_;have e:=hL;rw [g] at e;refine dW 26 _ rfl (by rw [g])<|Zz<|eY 37 rfl ?_ ?_<;>intro a
     . replace a:=sp a;apply dd [33,34,35];refine ldD 36 ?_ (hc:=(fC (hr.le leA) rfl));apply dd [37,38,39];refine ldD 40 ?_ (hc:=(fC (hr.le leA) rfl));refine dW 41 _ rfl (by rw [g])<|Zm (q) ?_;exact ⟨_,rfl,cB (by rw [isW_at Zq,c,sTr a];rfl),rfl⟩
     replace a:=sp a;refine Zm (q) ?_;exact ⟨_,rfl,cB (by rw [isW_at Zq,sNe a];simp),rfl⟩
   replace d:=sp d;refine Zm (q) ?_;exact ⟨_,rfl,cB (by rw [Zbv Zq];simp),rfl⟩
 replace c:=sp c;refine Zm (q) ?_;exact ⟨_,rfl,cB (by simp_all),rfl⟩
variable {w:Bs}
def Jn (hL:Sees q la (L.flatMap tkC))(hn:L.length<=65536):CF G 220 [pt p,.string (ba w)] (rdH p la lc L n bad::q) (Ret fun v q'=>(v= .bool true/\(bad=false/\isW w (L.drop n)=true/\n<L.length)/\q'=rdH p la lc L (n+1) bad::q)\/(v= .bool false/\(bad=true\/isW w (L.drop n)=false)/\q'=rdH p la lc L n bad::q)):=by
 refine We ntmps220 fun F cs=> ?_;apply bD (Zje V2 (hL.le leA) hn);refine Wg ?_ ?_<;>intro c
 . refine Zg ?_;exact ⟨_,⟨_,rfl,.inr ⟨rfl,by rw [J5] at c;cases bad<;>simp_all,rfl⟩⟩,leA⟩
 have b:bad=false/\isW w (L.drop n)=true:=by rw [J5] at c;cases bad<;>simp_all
 have a:=Zwp b.2;refine Zg ?_;exact ⟨_,⟨_,rfl,.inl ⟨rfl,⟨b.1,b.2,a⟩,rfl⟩⟩,leA⟩
def Wh (hL:Sees q la (L.flatMap tkC))(hn:L.length<=65536)(hnL:n<=L.length):CF G 219 [pt p,.string (ba w)] (rdH p la lc L n bad::q) (Ret fun v q'=> ∃ n' bad',v= .tuple #[]/\q'=rdH p la lc L n' bad'::q/\n<=n'/\n'<=L.length/\Out L bad (Un w (L.drop n)) () n' bad'):=by
 refine We ntmps219 fun F cs=> ?_;apply Zv leA (Jn (hL.le leA) hn);rintro _ _ (⟨rfl,⟨b,a,c⟩,rfl⟩|⟨rfl,a,rfl⟩)
 . refine Zg ?_;exact ⟨_,⟨_,rfl,n+1,bad,rfl,rfl,Zq,Zq,.inl ⟨b,b,by unfold Un;rw [if_pos a,tail_drop]⟩⟩,leA⟩
 refine Zg ?_;exact ⟨_,⟨_,rfl,n,true,rfl,rfl,aS _,hnL,.inr ⟨rfl,a.imp id fun h=>by unfold Un;rw [if_neg (by rw [h];decide)]⟩⟩,leA⟩
def Sq (h:n<L.length):Hm (L.drop n)=if L[n].k=1 then some (L[n].t,L.drop (n+1)) else none:=by rw [aP h];rfl
def O5 (h:L.length<=n):Hm (L.drop n)=none:=by rw [cN h];rfl
def Nu (hL:Sees q la (L.flatMap tkC))(hn:L.length<=65536)(hnL:n<=L.length):CF G 218 [pt p] (rdH p la lc L n bad::q) (Ret fun v q'=> ∃ (x:ByteArray) (n':Nat) (bad':Bool),v= .string x/\q'=rdH p la lc L n' bad'::q/\(n<=n'/\(x=em\/ ∃ t∈L,x=t.t))/\n'<=L.length/\Out L bad (Hm (L.drop n)) x n' bad'):=by
 refine aE ntmps218 fun F cs=> ?_;refine Zz ?_;refine eY 7 rfl ?_ ?_<;>intro b
 . replace b:=sp b;refine Zg ?_;exact ⟨_,⟨_,rfl,em,n,true,rfl,rfl,⟨aS _,.inl rfl⟩,hnL,.inr ⟨rfl,.inl b⟩⟩,leA⟩
 replace b:=sp b;refine Zz ?_;refine eY 19 rfl ?_ ?_<;>intro e
 . replace e:=sp e;refine Zg ?_;exact ⟨_,⟨_,rfl,em,n,true,rfl,rfl,⟨aS _,.inl rfl⟩,hnL,.inr ⟨rfl,.inr (O5 Zq)⟩⟩,leA⟩
 replace e:=sp e;refine Zz ?_;have a:n<L.length:=Zq;refine Rh hL (by rw [Zx (f:=tkC) (sz:=5) (fun _=>rfl) L];omega) fun b1 o1 g=> ?_;have c:=hL;rw [g] at c;refine dW 23 (.slice (some ⟨b1,o1,none⟩) L.length lc) rfl (by rw [g]) ?_;refine Zp ?_ ?_<;>intro h
 . refine Zg ?_;exact ⟨_,⟨_,rfl,em,n,true,rfl,rfl,⟨aS _,.inl rfl⟩,hnL,.inr ⟨rfl,.inr (by rw [Sq Zq,if_neg h])⟩⟩,leA⟩
 refine Zz ?_;refine dW 46 (.slice (some ⟨b1,o1,none⟩) L.length lc) rfl (by rw [g]) ?_;apply dd [9,10];refine ldD 11 ?_ (hc:=(Cl.el (n:=n) c leA (fun _=>rfl) a Zq rfl));refine Zg ?_;exact ⟨_,⟨_,rfl,L[n].t,n+1,bad,rfl,rfl,⟨Zq,.inr ⟨_,aC a,rfl⟩⟩,Zq,.inl ⟨b,b,by rw [Sq a,if_pos h]⟩⟩,leA⟩
def Zjb (h:n<L.length):H5 (L.drop n)=if L[n].k=2 then some (L[n].n,L.drop (n+1)) else none:=by rw [aP h];rfl
def Zgb (h:L.length<=n):H5 (L.drop n)=none:=by rw [cN h];rfl
def Tg (hL:Sees q la (L.flatMap tkC))(hn:L.length<=65536)(hnL:n<=L.length):CF G 221 [pt p] (rdH p la lc L n bad::q) (Ret fun v q'=> ∃ (x:Int) (n':Nat) (bad':Bool),v= I64 x/\q'=rdH p la lc L n' bad'::q/\(n<=n'/\(x=0\/ ∃ t∈L,x=t.n))/\n'<=L.length/\Out L bad (H5 (L.drop n)) x n' bad'):=by
 refine aE ntmps221 fun F cs=> ?_;refine Zz ?_;refine eY 7 rfl ?_ ?_<;>intro b
 . replace b:=sp b;refine Zg ?_;exact ⟨_,⟨_,rfl,0,n,true,rfl,rfl,⟨aS _,.inl rfl⟩,hnL,.inr ⟨rfl,.inl b⟩⟩,leA⟩
 replace b:=sp b;refine Zz ?_;refine eY 19 rfl ?_ ?_<;>intro e
 . replace e:=sp e;refine Zg ?_;exact ⟨_,⟨_,rfl,0,n,true,rfl,rfl,⟨aS _,.inl rfl⟩,hnL,.inr ⟨rfl,.inr (Zgb Zq)⟩⟩,leA⟩
 replace e:=sp e;refine Zz ?_;have a:n<L.length:=Zq;refine Rh hL (by rw [Zx (f:=tkC) (sz:=5) (fun _=>rfl) L];omega) fun b1 o1 g=> ?_;have c:=hL;rw [g] at c;refine dW 23 (.slice (some ⟨b1,o1,none⟩) L.length lc) rfl (by rw [g]) ?_;refine Zp ?_ ?_<;>intro h
 . refine Zg ?_;exact ⟨_,⟨_,rfl,0,n,true,rfl,rfl,⟨aS _,.inl rfl⟩,hnL,.inr ⟨rfl,.inr (by rw [Zjb Zq,if_neg h])⟩⟩,leA⟩
 refine Zz ?_;refine dW 46 (.slice (some ⟨b1,o1,none⟩) L.length lc) rfl (by rw [g]) ?_;apply dd [9,10];refine ldD 11 ?_ (hc:=(Cl.el (n:=n) c leA (fun _=>rfl) a Zq rfl));refine Zg ?_;exact ⟨_,⟨_,rfl,L[n].n,n+1,bad,rfl,rfl,⟨Zq,.inr ⟨_,aC a,rfl⟩⟩,Zq,.inl ⟨b,b,by rw [Zjb a,if_pos h]⟩⟩,leA⟩
end
def pos_ok (hL:Sees q la (L.flatMap tkC))(hn:L.length<=65536):CR G 216 [pt p] (rdH p la lc L n bad::q) (.agg [I64 (Z0 (L.drop n)).1,I64 (Z0 (L.drop n)).2].toArray):=by
 refine aE ntmps216 fun F cs=> ?_;refine Zo zeroValue104 fun n1=> ?_
 refine Zp ?_ ?_<;>intro g
 . refine Zg ?_;exact ⟨_,⟨_,rfl,by rw [cN Zq];rfl,rfl⟩,leA⟩
 refine Zz ?_;have b:n<L.length:=Zq;refine Rh hL (by rw [Zx (sz:=5) (fun _=>rfl) L];omega) fun b1 o1 e=> ?_;have a:=hL;rw [e] at a;refine dW 17 _ rfl (by rw [e])<|Zz ?_;refine iP 10 (us:= [I64 L[n].ln,I64 L[n].cl]) rfl rfl isAgg104 sizeOf104 rfl (fun k v d=>by match k,d with|0,d=>cases d;exact cX a leA (fun _=>rfl) b rfl 3 _ rfl|1,d=>cases d;exact cX a leA (fun _=>rfl) b rfl 4 _ rfl) ?_;refine rn [12,0] ?_;refine Zl _ func216 (rA_ results216) ⟨_,rfl,by rw [aP b];rfl,rfl⟩
def N8:(prog.info? 9).map (fun i=>(i.zero,i.size,i.bytes))=some (some (.string ⟨#[]⟩),1,16):=by kernel_rfl
def Zva:(prog.info? 3).map (fun i=>(i.zero,i.size,i.bytes))=some (some (I64 0),1,8):=by kernel_rfl
def rank_ok (hr:c<12):CR G 331 [I64 c] (q) (I64 (rankL.getD c 0)):=by
 refine We ntmps331 fun F cs=> ?_;apply bU (Qu I64 rankL underlying23 Zva rfl rfl rfl rfl rfl rfl (fun _=>rfl));rintro _ _ ⟨g,rfl,rfl⟩;have a:c<rankL.length:=by show c<12;omega
 refine Zz ?_;refine ld ?_ (hc:=(gF (bV _) Zj a Zq));refine Zm (q) ?_;exact ⟨_,rfl,by rw [gD a],rfl⟩
def sign_ok (hr:c<12):CR G 332 [I64 c] (q) (.string (ba (signL.getD c []))):=by
 refine We ntmps332 fun F cs=> ?_;apply bU (Qu (fun w:Bs=>Value.string (ba w)) signL underlying25 N8 rfl rfl rfl rfl rfl rfl (fun _=>rfl));rintro _ _ ⟨g,rfl,rfl⟩;have a:c<signL.length:=by show c<12;omega
 refine Zz ?_;refine ld ?_ (hc:=(gF (bV _) Zj a Zq));refine Zm (q) ?_;exact ⟨_,rfl,by rw [gD a],rfl⟩
def L9 {s}(h:s<=11):Cd r ts (List.range' s (12 - s))=if rankL.getD s 0=r/\isW (signL.getD s []) ts=true then s else Cd r ts (List.range' (s+1) (12 - (s+1))):=by
 rw [show 12 - s=(12 - (s+1))+1 by omega];rfl
def Zjh {L:List Tk}{n}{r}: ∀ {l},Cd r (L.drop n) l≠0->n<L.length
 | [],h=>aV rfl h
 |o::l,h=>by
  unfold Cd at h;split at h
  . rename_i k;exact Zwp k.2
  exact Zjh h
abbrev Ak (v0:Nat)(v1:Int):=[pt v0,I64 v1]
def Zy7 (hr:Has q p (.cells [.slice la L.length lc,I64 n,.bool bad].toArray 302 (0,0)))(hL:Sees q la (L.flatMap tkC))(hn:L.length<=65536):CR G 326 (Ak p r) (q) (I64 (if bad=true then 0 else Jo r (L.drop n):Nat)):=by
 refine aE ntmps326 fun F cs=> ?_;refine Zs (bW (fun (s:Nat)=>1<=s/\s<=12/\(bad=false->Jo r (L.drop n)=Cd r _ (List.range' s (12 - s)))) (fun s=> [(5,I64 s),(0,pt p),(1,I64 r),(4,I64 0)]) (fun s=>(q++F)) (fun s=>12 - s) (fun s d e=> ?_) 1 ⟨aS _,Zq,fun _=>rfl⟩);try dsimp only at d e|-
 refine Zp ?_ ?_<;>intro l
 . have f:s<=11:=Zq;refine Zz ?_;refine Wb (rank_ok (c:=s) Zq) ?_;refine' Q1 ?_ ?_
   rotate_left
   . intro b j;refine Zz ?_;apply bD (sign_ok (c:=s) Zq);apply bD (Zje (hr.le leA) (hL.le leA) hn);exact Vi j
   refine Zp ?_ ?_<;>intro b
   . refine Zm (q) ?_;exact ⟨_,rfl,by rw [if_neg (by rw [b.2.1];decide),d.2.2 b.2.1,L9 Zq,if_pos ⟨b.1,b.2.2⟩],rfl⟩
   refine Zs (e (s+1) ⟨Zq,Zq,fun i=>by rw [d.2.2 i,L9 Zq,if_neg (fun k=>by rw [J5] at b;simp_all)]⟩ Zq)
 refine Zm (q) ?_;exact ⟨_,rfl,by obtain rfl:s=12:=Zq;cases bad with|true=>rfl|false=>rw [d.2.2 rfl];rfl,rfl⟩
section
variable {b3 b4:Bool}{g n1 n2 n3 n4:Nat}{x y:PEx}{z:Int}{S:Option (PEx×List Tk)}
def Out.up {α β}{sp:Option (α×List Tk)}{sq:Option (β×List Tk)}{x}{y}(h:Out L bad sp x n b1)(h1:bad=false-> ∀ r,sp=some (x,r)->sq=some (y,r))(h2:bad=false->sp=none->sq=none):Out L bad sq y n b1:=by
 rcases h with ⟨b,a,c⟩|⟨b,a⟩
 . exact .inl ⟨b,a,h1 a _ c⟩
 refine .inr ⟨b,?_⟩
 cases hb:bad with
 |true=>exact .inl rfl
 |false=>exact .inr (h2 hb (a.resolve_left (by rw [hb];decide)))
def Out.seq {α β γ}{sp}{sq}{st:Option (γ×List Tk)}{x:α}{y:β}{w}(h:Out L bad sp x n b1)(k:Out L b1 sq y n2 b2)(h1:bad=false->sp=none->st=none)
 (h2:bad=false->sp=some (x,L.drop n)->sq=none->st=none) (h3:bad=false->sp=some (x,L.drop n)-> ∀ r,sq=some (y,r)->st=some (w,r)):Out L bad st w n2 b2:=by
 rcases h with ⟨d,b,e⟩|⟨d,b⟩
 . subst d;rcases k with ⟨a,_,f⟩|⟨a,c⟩
   . exact .inl ⟨a,b,h3 b e _ f⟩
   exact .inr ⟨a,.inr (h2 b e (c.resolve_left Zw))⟩
 subst d;rcases k with ⟨_,c,_⟩|⟨a,_⟩
 . cases c
 refine .inr ⟨a,?_⟩
 cases hb:bad with
 |true=>exact .inl rfl
 |false=>exact .inr (h1 hb (b.resolve_left (by rw [hb];decide)))
def Out.isBad {α}{sp:Option (α×List Tk)}{x}(h:Out L true sp x n b1):b1=true:=by
 rcases h with ⟨_,h,_⟩|⟨h,_⟩
 . cases h
 exact h
def Out.bnd {α β}{A}{K:α->List Tk->Option (β×List Tk)}{x}{y}(h:Out L bad A x n b1)(k:Out L b1 (K x (L.drop n)) y n2 b2):Out L bad (Go.Proofs.YtadahhbefdnabaaGreatDoor.bnd A K) y n2 b2:=
 h.seq k (fun _ h=>by rw [h];rfl) (fun _ h k=>by rw [h];exact k) (fun _ h r k=>by rw [h];exact k)
def Out.ret {α}{x:α}:Out L bad (some (x,L.drop n)) x n bad:=by cases bad;exact .inl ⟨rfl,rfl,rfl⟩;exact .inr ⟨rfl,.inl rfl⟩
def Out.any {α}{x:α}{A}:Out L true A x n true:= .inr ⟨rfl,.inl rfl⟩
def Da {s}(h:isW s (L.drop n)=true):tkW s (L.drop n)=some (L.drop (n+1)):=by unfold tkW;rw [if_pos h,tail_drop]
def Tb {s}(h:isW s (L.drop n)=false):tkW s (L.drop n)=none:=by unfold tkW;rw [if_neg (by rw [h];decide)]
def Fl {s}{r}:Un s ts=some ((),r)↔tkW s ts=some r:=by
 unfold Un tkW;split<;>simp
def Sz {s}:Un s ts=none↔tkW s ts=none:=by
 unfold Un tkW;split<;>simp
def un_neg (hw:isW [45] (L.drop n)=true)(ho:Out L false (unS f (L.drop (n+1))) x n2 b2):Out L false (unS (f+1) (L.drop n)) (.mk 4 0 em 0 false 0 [x]) n2 b2:=
 ho.up (fun _ r h=>by simp [unS,Da hw,h]) (fun _ h=>by simp [unS,Da hw,h])
def un_not (h1:isW [45] (L.drop n)=false)(hw:isW [33] (L.drop n)=true)(ho:Out L false (unS f (L.drop (n+1))) x n2 b2):Out L false (unS (f+1) (L.drop n)) (.mk 5 0 em 0 false 0 [x]) n2 b2:=
 ho.up (fun _ r h=>by simp [unS,Tb h1,Da hw,h]) (fun _ h=>by simp [unS,Tb h1,Da hw,h])
def un_prim (h1:bad=true\/isW [45] (L.drop n)=false)(h2:bad=true\/isW [33] (L.drop n)=false)(ho:Out L bad (Q0 f (L.drop n)) x n2 b2):Out L bad (unS (f+1) (L.drop n)) x n2 b2:=
 ho.up (fun a r h=>by simp [unS,Tb (h1.resolve_left (by rw [a];decide)),Tb (h2.resolve_left (by rw [a];decide)),h]) (fun a h=>by simp [unS,Tb (h1.resolve_left (by rw [a];decide)),Tb (h2.resolve_left (by rw [a];decide)),h])
def prim_par (hw:isW [40] (L.drop n)=true)(ho:Out L false (Ve f 1 (L.drop (n+1))) x n2 b2)(h2:Out L b2 (Un [41] (L.drop n2)) () n3 b3):Out L false (Q0 (f+1) (L.drop n)) x n3 b3:=
 ho.seq h2 (fun _ h=>by simp [Q0,Da hw,h]) (fun _ h k=>by simp [Q0,Da hw,h,Sz.1 k]) (fun _ h r k=>by simp [Q0,Da hw,h,Fl.1 k])
def Lo (h: ∀ t r,ts=t::r->t.k≠2):H5 ts=none:=by
 cases ts with
 |nil=>rfl
 |cons t r=>exact if_neg (h t r rfl)
def Zwk {t}{r}(e:ts=t::r)(h:t.k=2):H5 ts=some (t.n,r):=by subst e;exact if_pos h
def prim_num (h1:bad=true\/isW [40] (L.drop n)=false)(hlt:n<L.length)(hk:L[n].k=2)(ho:Out L bad (H5 (L.drop n)) z n2 b2):Out L bad (Q0 (f+1) (L.drop n)) (.mk 1 z em 0 false 0 []) n2 b2:=
 ho.up (fun a r h=>by simp [Q0,Tb (h1.resolve_left (by rw [a];decide)),h]) (fun a h=>by rw [Zwk (aP hlt) hk] at h;cases h)
def Zf6 (h1:bad=true\/isW [40] (L.drop n)=false)(hk: ∀ h:n<L.length,L[n].k≠2)(ho:Out L bad (Hm (L.drop n)) nm n2 b2)(h2:b2=true\/isW [91] (L.drop n2)=false):Out L bad (Q0 (f+1) (L.drop n)) (.mk 2 0 nm 0 false 0 []) n2 b2:=by
 have d:H5 (L.drop n)=none:=Lo fun t r e=>by
  have a:n<L.length:=by rcases dN n L.length with h|h;exact h;rw [cN h] at e;cases e
  rw [aP a] at e;cases e;exact hk a
 rcases ho with ⟨c,b,g⟩|⟨c,b⟩
 . refine .inl ⟨c,b,?_⟩;simp [Q0,Tb (h1.resolve_left (by rw [b];decide)),d,g,Tb (h2.resolve_left (by rw [c];decide))]
 refine .inr ⟨c,?_⟩
 cases hb:bad with
 |true=>exact .inl rfl
 |false=>simp only [Q0,Tb (h1.resolve_left (by rw [hb];decide)),d,b.resolve_left (by rw [hb];decide)];exact .inr trivial
def Zf7 (h1:bad=true\/isW [40] (L.drop n)=false)(hk: ∀ h:n<L.length,L[n].k≠2)(ho:Out L bad (Hm (L.drop n)) nm n2 false)(hw:isW [91] (L.drop n2)=true)
 (h3:Out L false (Ve f 1 (L.drop (n2+1))) x n3 b3) (h4:Out L b3 (Un [93] (L.drop n3)) () n4 b4):Out L bad (Q0 (f+1) (L.drop n)) (.mk 3 0 nm 0 false 0 [x]) n4 b4:=by
 have c:H5 (L.drop n)=none:=Lo fun t r e=>by
  have b:n<L.length:=by rcases dN n L.length with h|h;exact h;rw [cN h] at e;cases e
  rw [aP b] at e;cases e;exact hk b
 rcases ho with ⟨_,g,d⟩|⟨i,_⟩
 . subst g;have a:=h1.resolve_left Zw;exact h3.seq h4 (fun _ h=>by simp [Q0,Tb a,c,d,Da hw,h]) (fun _ h k=>by simp [Q0,Tb a,c,d,Da hw,h,Sz.1 k]) (fun _ h r k=>by simp [Q0,Tb a,c,d,Da hw,h,Fl.1 k])
 cases i
def expr_un (ho:Out L bad (unS f (L.drop n)) x n2 b2):Out L bad (Ve (f+1) 6 (L.drop n)) x n2 b2:=
 ho.up (fun _ r h=>by simp [Ve,h]) (fun _ h=>by simp [Ve,h])
def More (L:List Tk)(bad:Bool)(S:Option (PEx×List Tk))(g:Nat)(r:Int)(x:PEx)(n:Nat)(b:Bool):Prop:=(b=false/\bad=false/\S=Rl g r x (L.drop n))\/(b=true/\(bad=true\/S=none))
def More.first (hr:r<=5)(ho:Out L bad (Ve f (r+1) (L.drop n)) x n1 b1):More L bad (Ve (f+1) r (L.drop n)) f r x n1 b1:=by
 rcases ho with ⟨b,a,c⟩|⟨b,a⟩
 . exact .inl ⟨b,a,by simp [Ve,if_neg (show ¬ (5:Int)<r by omega),c]⟩
 exact .inr ⟨b,a.imp id fun h=>by simp [Ve,if_neg (show ¬ (5:Int)<r by omega),h]⟩
theorem More.over (h:More L bad S (g+1) r x n1 b1)(h0:b1=true\/Jo r (L.drop n1)=0):Out L bad S x n1 b1:=by
 rcases h with ⟨a,b,c⟩|⟨a,b⟩
 . exact .inl ⟨a,b,by rw [c];simp [Rl,if_pos (h0.resolve_left (by rw [a];decide))]⟩
 exact .inr ⟨a,b⟩
theorem More.go (h:More L bad S (g+1) r x n1 false)(h0:Jo r (L.drop n1)≠0)(ho:Out L false (Ve g (r+1) (L.drop (n1+1))) y n2 b2)(h3:r≠3):More L bad S g r (.mk 6 0 em 0 false (Jo r (L.drop n1)) [x,y]) n2 b2:=by
 rcases h with ⟨_,e,b⟩|⟨f,_⟩
 . rcases ho with ⟨a,_,c⟩|⟨a,d⟩
   . exact .inl ⟨a,e,by rw [b];simp [Rl,if_neg h0,c,if_neg h3]⟩
   exact .inr ⟨a,.inr (by rw [b];simp [Rl,if_neg h0,d.resolve_left Zw])⟩
 cases f
def More.three (h:More L bad S (g+1) 3 x n1 false)(h0:Jo 3 (L.drop n1)≠0)(ho:Out L false (Ve g 4 (L.drop (n1+1))) y n2 b2):Out L bad S (.mk 6 0 em 0 false (Jo 3 (L.drop n1)) [x,y]) n2 b2:=by
 rcases h with ⟨_,e,b⟩|⟨f,_⟩
 . rcases ho with ⟨a,_,c⟩|⟨a,d⟩
   . exact .inl ⟨a,e,by rw [b];simp [Rl,if_neg h0,c]⟩
   exact .inr ⟨a,.inr (by rw [b];simp [Rl,if_neg h0,d.resolve_left Zw])⟩
 cases f
end
def Zzv (G:World)(la:Option Addr)(lc:Nat)(L:List Tk)(f:Nat):Prop:= ∀ {p n:Nat} {q:List HP} {bad:Bool} (r:Nat),Sees q la (L.flatMap tkC)->1<=r->r<=6->n<=L.length->10*(L.length - n)+9<=f+r->
 CF G 305 [pt p,I64 r] (rdH p la lc L n bad::q) (Ret fun v q'=> ∃ (e:Ex) (n':Nat) (bad':Bool),v= .agg (exC e).toArray/\q'=rdH p la lc L n' bad'::exM e::q/\n<=n'/\n'<=L.length/\Out L bad (Ve f r (L.drop n)) e.er n' bad')
def RdUn (G:World)(la:Option Addr)(lc:Nat)(L:List Tk)(f:Nat):Prop:= ∀ {p n:Nat} {q:List HP} {bad:Bool},Sees q la (L.flatMap tkC)->n<=L.length->10*(L.length - n)+2<=f->
 CF G 325 [pt p] (rdH p la lc L n bad::q) (Ret fun v q'=> ∃ (e:Ex) (n':Nat) (bad':Bool),v= .agg (exC e).toArray/\q'=rdH p la lc L n' bad'::exM e::q/\n<=n'/\n'<=L.length/\Out L bad (unS f (L.drop n)) e.er n' bad')
def RdPrim (G:World)(la:Option Addr)(lc:Nat)(L:List Tk)(f:Nat):Prop:= ∀ {p n:Nat} {q:List HP} {bad:Bool},Sees q la (L.flatMap tkC)->n<=L.length->10*(L.length - n)+1<=f->
 CF G 330 [pt p] (rdH p la lc L n bad::q) (Ret fun v q'=> ∃ (e:Ex) (n':Nat) (bad':Bool),v= .agg (exC e).toArray/\q'=rdH p la lc L n' bad'::exM e::q/\n<=n'/\n'<=L.length/\Out L bad (Q0 f (L.drop n)) e.er n' bad')
def Jl:(prog.info? 136).map (fun i=>(i.zero,i.size,i.bytes))=some (some (.agg #[I64 0,I64 0,.string ⟨#[]⟩,I64 0,.bool false,I64 0,.slice none 0 0]),7,80):=by kernel_rfl
def un_step (IHu:RdUn G la lc L f)(IHp:RdPrim G la lc L f)(hL:Sees q la (L.flatMap tkC))(hn:L.length<=65536)(hnL:n<=L.length)(hfu:10*(L.length - n)+2<=f+1):CF G 325 [pt p] (rdH p la lc L n bad::q) (Ret fun v q'=> ∃ (e:Ex) (n':Nat) (bad':Bool),v= .agg (exC e).toArray/\q'=rdH p la lc L n' bad'::exM e::q/\n<=n'/\n'<=L.length/\Out L bad (unS (f+1) (L.drop n)) e.er n' bad'):=by
 refine aE ntmps325 fun F cs=> ?_;refine Zo zeroValue136 fun n1=> ?_
 refine Zz ?_;apply Zv leA (Jn (hL.le leA) hn);rintro _ _ (⟨rfl,⟨o,a,s⟩,rfl⟩|⟨rfl,a,rfl⟩)
 . refine Zz ?_;apply Zv leA (IHu (hL.le leA) Zq Zq);rintro _ _ ⟨⟨l,z1,k,l1,o1,p1,i,j,w1⟩,m2,b2,rfl,rfl,h,c,b⟩;apply bU (Yw exC underlying134 Jl rfl rfl Yn rfl);rintro _ _ ⟨g,rfl,rfl⟩;refine Zz ?_;subst o;apply Zxh (nm:=em) (slot:=0) (loc:=false) (op:=0);refine Zg ?_;exact ⟨_,⟨_,rfl,.mk 4 0 em 0 false 0 [(.mk l z1 k l1 o1 p1 i j w1)] _ 1,m2,b2,rfl,rfl,Zq,c,un_neg a b⟩,leA⟩
 refine Zz ?_;apply Zv leA (Jn (hL.le leA) hn);rintro _ _ (⟨rfl,⟨m,d,r⟩,rfl⟩|⟨rfl,d,rfl⟩)
 . refine Zz ?_;apply Zv leA (IHu (hL.le leA) Zq Zq);rintro _ _ ⟨⟨l,z1,k,l1,o1,p1,i,j,w1⟩,m2,b2,rfl,rfl,h,c,b⟩;apply bU (Yw exC underlying134 Jl rfl rfl Yn rfl);rintro _ _ ⟨g,rfl,rfl⟩;refine Zz ?_;subst m;replace a:=a.resolve_left Zw;apply Zxh (nm:=em) (slot:=0) (loc:=false) (op:=0);refine Zg ?_;exact ⟨_,⟨_,rfl,.mk 5 0 em 0 false 0 [(.mk l z1 k l1 o1 p1 i j w1)] _ 1,m2,b2,rfl,rfl,Zq,c,un_not a d b⟩,leA⟩
 refine Zz ?_;apply Zv leA (IHp (hL.le leA) Zq Zq);rintro _ _ ⟨⟨l,z1,k,l1,o1,p1,i,j,w1⟩,m2,b2,rfl,rfl,h,c,b⟩;refine Zg ?_;exact ⟨_,⟨_,rfl,(.mk l z1 k l1 o1 p1 i j w1),m2,b2,rfl,rfl,h,c,un_prim a d b⟩,leA⟩
def Zf5 (IHe:Zzv G la lc L f)(hL:Sees q la (L.flatMap tkC))(hn:L.length<=65536)(hnL:n<=L.length)(hfu:10*(L.length - n)+1<=f+1):CF G 330 [pt p] (rdH p la lc L n bad::q) (Ret fun v q'=> ∃ (e:Ex) (n':Nat) (bad':Bool),v= .agg (exC e).toArray/\q'=rdH p la lc L n' bad'::exM e::q/\n<=n'/\n'<=L.length/\Out L bad (Q0 (f+1) (L.drop n)) e.er n' bad'):=by
 refine aE ntmps330 fun F cs=> ?_;refine Zo zeroValue136 fun n1=> ?_
 refine Zz ?_;apply Zv leA (Jn (hL.le leA) hn);rintro _ _ (⟨rfl,⟨e0,a,g0⟩,rfl⟩|⟨rfl,a,rfl⟩)
 . refine Zz ?_;apply Zv leA (IHe 1 (hL.le leA) Zq Zq Zq Zq);rintro _ _ ⟨⟨k1,z1,x,l1,o1,p1,t,u,w1⟩,m3,b3,rfl,rfl,c0,o,l⟩;refine Zo zeroValue136 fun n2=> ?_
   refine Zz ?_;apply Zv leA (Wh (hL.le leA) hn o);rintro _ _ ⟨y,b4,rfl,rfl,b0,m,j⟩;refine Zz ?_;subst e0;refine Zg ?_;exact ⟨_,⟨_,rfl,(.mk k1 z1 x l1 o1 p1 t u w1),y,b4,rfl,rfl,Zq,m,prim_par a l j⟩,leA⟩
 refine Zz ?_;refine eY 22 rfl ?_ ?_<;>intro s
 focus
  replace s:=sp s;refine Zz ?_;refine Rh hL (by rw [Zx (f:=tkC) (sz:=5) (fun _=>rfl) L];omega) fun b1 o1 e1=> ?_;have a0:=hL;rw [e1] at a0;refine dW 26 (.slice (some ⟨b1,o1,none⟩) L.length lc) rfl (by rw [e1]) ?_;refine Zp ?_ ?_<;>intro h2
  . refine Zz ?_;apply Zv leA (Tg (hL.le leA) hn hnL);rintro _ _ ⟨z,m2,b2,rfl,rfl,⟨c,_⟩,d,b⟩;refine Zz ?_;apply cE (Le.ex0 1 z em 0 false 0);refine Zg ?_;exact ⟨_,⟨_,rfl,.mk 1 z em 0 false 0 [] none 0,m2,b2,rfl,rfl,c,d,prim_num a Zq h2 b⟩,leA⟩
  refine Zz ?_;apply Zv leA (Nu (hL.le leA) hn hnL);rintro _ _ ⟨nm,m2,b2,rfl,rfl,⟨c,_⟩,d,b⟩;refine Zo zeroValue136 fun n2=> ?_
  refine Zz ?_;have hk: ∀ h:n<L.length,L[n].k≠2:=fun _=>h2
 rotate_left
 focus
  replace s:=sp s;refine Zz ?_;apply Zv leA (Nu (hL.le leA) hn hnL);rintro _ _ ⟨nm,m2,b2,rfl,rfl,⟨c,_⟩,d,b⟩;refine Zo zeroValue136 fun n2=> ?_
  refine Zz ?_;have hk: ∀ h:n<L.length,L[n].k≠2:=fun h=>aV h Zq
 all_goals
  apply Zv leA (Jn (hL.le leA) hn);rintro _ _ (⟨rfl,⟨d0,i,f0⟩,rfl⟩|⟨rfl,i,rfl⟩)
  . refine Zz ?_;subst d0;apply Zv leA (IHe 1 (hL.le leA) Zq Zq Zq Zq);rintro _ _ ⟨⟨k1,z1,x,l1,o1,p1,t,u,w1⟩,m3,b3,rfl,rfl,c0,o,l⟩;apply bU (Yw exC underlying134 Jl rfl rfl Yn rfl);rintro _ _ ⟨g,rfl,rfl⟩;refine Zz ?_;apply Zv leA (Wh (hL.le leA) hn o);rintro _ _ ⟨y,b4,rfl,rfl,b0,m,j⟩;refine Zz ?_;apply Zxh (slot:=0) (loc:=false) (op:=0);refine Zg ?_;exact ⟨_,⟨_,rfl,.mk 3 0 nm 0 false 0 [(.mk k1 z1 x l1 o1 p1 t u w1)] (some ⟨g,0,none⟩) 1,y,b4,rfl,rfl,Zq,m,Zf7 a hk b i l j⟩,leA⟩
  refine Zz ?_;apply cE (Le.ex0 2 0 nm 0 false 0);refine Zg ?_;exact ⟨_,⟨_,rfl,.mk 2 0 nm 0 false 0 [] none 0,m2,b2,rfl,rfl,c,d,Zf6 a hk b i⟩,leA⟩
def Zg6 {r}(IHu:RdUn G la lc L f)(IHe: ∀ g,g<=f->Zzv G la lc L g)(hL:Sees q la (L.flatMap tkC))(hn:L.length<=65536)(hnL:n<=L.length)(h1r:1<=r)(h6r:r<=6)(hfu:10*(L.length - n)+9<=f+1+r):CF G 305 [pt p,I64 r] (rdH p la lc L n bad::q) (Ret fun v q'=> ∃ (e:Ex) (n':Nat) (bad':Bool),v= .agg (exC e).toArray/\q'=rdH p la lc L n' bad'::exM e::q/\n<=n'/\n'<=L.length/\Out L bad (Ve (f+1) r (L.drop n)) e.er n' bad'):=by
 refine aE ntmps305 fun F cs=> ?_;refine Zo zeroValue136 fun n1=> ?_
 refine Zp ?_ ?_<;>intro h0
 . obtain rfl:r=6:=by omega
   refine Zz ?_;apply Zv leA (IHu (hL.le leA) Zq Zq);rintro _ _ ⟨⟨j,z1,i,l1,o1,p1,d,h,w1⟩,m2,b2,rfl,rfl,l,o,b⟩;refine Zg ?_;exact ⟨_,⟨_,rfl,(.mk j z1 i l1 o1 p1 d h w1),m2,b2,rfl,rfl,l,o,expr_un b⟩,leA⟩
 have g0:r<=5:=Zq;refine Zz ?_;apply Zv leA (IHe f (aS _) (r+1) (hL.le leA) Zq Zq Zq Zq);rintro _ _ ⟨⟨j,z1,i,l1,o1,p1,d,h,w1⟩,m2,b2,rfl,rfl,l,o,b⟩;refine Zo zeroValue136 fun n2=> ?_
 refine Zz ?_;have hS:=More.first Zq b;generalize Ve (f+1) (r:Int) (L.drop n)=S at hS|-;refine Zs (bW (fun (s:Ex×Nat×Bool×Nat)=>n<=s.2.1/\s.2.1<=L.length/\s.2.2.2<=f/\10*(L.length - s.2.1)+1<=s.2.2.2/\More L bad S s.2.2.2 r s.1.er s.2.1 s.2.2.1) (fun s=> [(0,pt p),(1,I64 r),(4,pt n1),(5,pt n2)]) (fun s=>rdH p la lc L s.2.1 s.2.2.1::pC n2 (exC s.1) 136::pC n1 zz3 136::exM s.1::(q++F)) (fun s=>L.length - s.2.1) (fun s w ih=> ?_) ((.mk j z1 i l1 o1 p1 d h w1),m2,b2,f) ⟨l,o,aS _,Zy,hS⟩);try dsimp only at w ih|-
 have ⟨b0,a0,f0,e0,m⟩:=w;have ⟨⟨j,z1,i,l1,o1,p1,d,h,w1⟩,a,b1,g⟩:=s;dsimp only at*;clear b hS;obtain ⟨g,rfl⟩: ∃ g2,g=g2+1:=⟨g - 1,Zq⟩;refine Zz ?_;apply bD (Zy7 (n:=a) (bad:=b1) (r:=(r:Int)) V2 (hL.le leA) hn);refine Zp ?_ ?_<;>intro c
 . obtain rfl:b1=false:=by cases b1 with|false=>rfl|true=>(rw [if_pos rfl] at c;exact aV c Zw)
   replace c:Jo r (L.drop a)≠0:=fun k=>by rw [if_neg Zw,k] at c;exact aV c Zw
   have d0:=Zjh c;refine Zz ?_;apply bD (Zy7 (n:=a) (bad:=false) (r:=(r:Int)) V2 (hL.le leA) hn);apply aX 21 (I64 (Jo r (L.drop a):Nat)) rfl (rfl);refine Zz ?_;apply Wk 5 leA (IHe g Zq (r+1) (n:=a+1) (bad:=false) (hL.le leA) Zq Zq Zq Zq);rintro _ _ ⟨⟨k2,y,s2,l2,o2,p2,z,u2,w2⟩,m3,b3,rfl,rfl,c0,x,t⟩;refine ⟨hlA,?_⟩;apply eT 6 rfl (Ef.litR2 (u:=(.mk j z1 i l1 o1 p1 d h w1)) (v:=(.mk k2 y s2 l2 o2 p2 z u2 w2)) exC underlying134 Jl rfl rfl Yn rfl rfl);rintro _ _ ⟨g3,rfl,rfl⟩;refine ⟨trivial,?_⟩;refine rn [8,9,0,5] ?_;apply X.fzE2 (kd:=6) (n:=0) (nm:=em) (slot:=0) (loc:=false) (op:=(Jo r (L.drop a):Nat));refine Zp ?_ ?_<;>intro h3
   . obtain rfl:r=3:=by omega
     refine Zg ?_;exact ⟨_,⟨_,rfl,(.mk 6 0 em 0 false (Jo (3:Nat) (L.drop a):Nat) [(.mk j z1 i l1 o1 p1 d h w1),(.mk k2 y s2 l2 o2 p2 z u2 w2)] (some ⟨g3,0,none⟩) 2),m3,b3,rfl,rfl,Zq,x,m.three c t⟩,leA⟩
   refine Zs (ih ((.mk 6 0 em 0 false (Jo r (L.drop a):Nat) [(.mk j z1 i l1 o1 p1 d h w1),(.mk k2 y s2 l2 o2 p2 z u2 w2)] (some ⟨g3,0,none⟩) 2),m3,b3,g) ⟨Zy,x,Zy,Zy,m.go c t Zq⟩ Zy)
 refine Zg ?_;exact ⟨_,⟨_,rfl,(.mk j z1 i l1 o1 p1 d h w1),a,b1,rfl,rfl,b0,a0,m.over (by cases b1 with|true=>exact .inl rfl|false=>rw [if_neg Zw] at c;exact .inr Zq)⟩,leA⟩
def Zf2 (hn:L.length<=65536): ∀ f,Zzv G la lc L f/\RdUn G la lc L f/\RdPrim G la lc L f:=by
 intro f
 induction f using Nat.strongRecOn with
 |ind f ih=>
  cases f with
  |zero=>exact ⟨fun r c e d a b=>by omega,fun c a b=>by omega,fun c a b=>by omega⟩
  |succ f=>
   have h:=ih f (Nat.lt_succ_self _);exact ⟨fun r c e d a b=>Zg6 h.2.1 (fun g i=>(ih g Zq).1) c hn a e d b,fun c a b=>un_step h.2.1 h.2.2 c hn a b,fun c a b=>Zf5 h.1 c hn a b⟩
def Ex.z:Ex:= .mk 0 0 em 0 false 0 [] none 0
section
variable {ix:Ex}{els:List Stm}{wt:ByteArray}{ba:Option Addr}{ea:Option Addr}{ec:Nat}{id slot other:Int}{loc:Bool}
def Kn.exz:Kn q fun M=>Ex.z.At M:=fun M _ _=>⟨SlAt.nil M,trivial⟩
def Zyz:Kn q fun M=>BlkAt M none 0 []:=fun M _ _=>⟨SlAt.nil M,trivial⟩
def Kn.st (he:Kn q fun M=>e.At M:=by first|exact Kn.exz|exact knA)(hx:Kn q fun M=>ix.At M:=by first|exact Kn.exz|exact knA)(hb:Kn q fun M=>BlkAt M ba bc body:=by first|exact Zyz|exact knA)(hl:Kn q fun M=>BlkAt M ea ec els:=by first|exact Zyz|exact knA):
 Kn q fun M=>(Stm.mk k ln cl nm wt e ix body els ba bc ea ec id slot other loc).At M:=fun M x p=>⟨he M x p,hx M x p,hb M x p,(hl M x p).1,(hl M x p).2⟩
abbrev kK:=@Kn.st
def Kr {p:PE}(s:Stm)(h:Kn q fun M=>s.At M)(K:X P G fr Q todo p ds cs (stM s::q)):X P G fr Q todo p ds cs q:= .le (dP h) K
end
def X.sts {p:PE}{q1 q2:List HP}{l:List Stm}{s:Stm}(h1:Le q (stsM l::q1))(h2:Le q1 (stM s::q2))(K:X P G fr Q todo p ds cs (stsM (l++ [s])::q2)):X P G fr Q todo p ds cs q:= .le (h1.trans ((cC _ h2).trans N2)) K
def Ns (l m:List Stm):Zk (l++m)=Zk l++Zk m:=by simp [Yl]
def Fo {W}{ts}: ∀ {k},Ms W ts k<=k
 |0=>aS _
 |k+1=>by unfold Ms;split;exact aS _;exact Nat.le_succ_of_le Fo
def Sc {W}{L:List Tk}{n}: ∀ {k},Ms W (L.drop n) k≠0->n<L.length
 |0,h=>aV rfl h
 |k+1,h=>by
  unfold Ms at h;split at h
  . rename_i g;exact Zwp g.2
  exact Sc h
def baNil (w:Bs):(ba w).toList=(ByteArray.mk #[]).toList↔w= []:=by rw [sEq,J5];exact Iff.rfl
section
variable {b:Bool}{m m2:Nat}{s:PStm}{p:Int×Int}
def stmt_0 (hk:bad=true\/U8 (L.drop n)=0)(ho:Out L bad (Hm (L.drop n)) nm m2 b2)(hr:Out L b2 (Qe f 0 (Z0 (L.drop n)) nm (L.drop m2)) s m b):Out L bad (Hf (f+1) (L.drop n)) s m b:=by
 cases bad with
 |true=>
  have c:=ho.isBad;subst c;have a:=hr.isBad;subst a;exact .any
 |false=>
  rw [Hf,hk.resolve_left Zw,if_neg Zw,if_neg Zw,if_neg Zw];exact ho.bnd hr
def Lq (h0:U8 (L.drop n)≠0)(h1:U8 (L.drop n)≠4/\U8 (L.drop n)≠5/\U8 (L.drop n)≠14/\U8 (L.drop n)≠15)(ho:Out L false (Hm (L.drop (n+1))) nm m2 b2)(hr:Out L b2 (Qe f (U8 (L.drop n)) (Z0 (L.drop n)) nm (L.drop m2)) s m b):Out L false (Hf (f+1) (L.drop n)) s m b:=by
 rw [Hf,if_neg Zq,if_neg Zq,if_pos Zq,tail_drop];exact ho.bnd hr
def stmt_j (h1:U8 (L.drop n)=14\/U8 (L.drop n)=15)(hr:Out L false (Qe f (U8 (L.drop n)) (Z0 (L.drop n)) em (L.drop (n+1))) s m b):Out L false (Hf (f+1) (L.drop n)) s m b:=by
 rw [Hf,if_neg Zq,if_pos h1,tail_drop];exact hr
def rest_0 {l}(hw:b2=true\/isW [91] (L.drop m2)=false)(e:l=bnd (Un [61] (L.drop m2)) fun _ r=>bnd (Ve f 1 r) fun e r=>bnd (Un [59] r) fun _ r=>some (.mk 2 p.1 p.2 nm em e .z [] [] 0 0 0 false,r))(hr:Out L b2 l s m b):Out L b2 (Qe f 0 p nm (L.drop m2)) s m b:=by
 subst e
 cases b2 with
 |true=>have h:=hr.isBad;subst h;exact .any
 |false=>rw [Qe,if_pos rfl,if_neg (by rw [hw.resolve_left Zw];decide)];exact hr
def MoreB (L:List Tk)(bad:Bool)(S:Option (List PStm×List Tk))(g:Nat)(l:List PStm)(n:Nat)(b:Bool):Prop:=(b=false/\bad=false/\S=(Jw g (L.drop n)).map fun x=>(l++x.1,x.2))\/(b=true/\(bad=true\/S=none))
def MoreB.first (S:Option (List PStm×List Tk))(e:bad=false->S=Jw f (L.drop n)):MoreB L bad S f [] n bad:=by
 cases bad with
 |true=>exact .inr ⟨rfl,.inl rfl⟩
 |false=>exact .inl ⟨rfl,rfl,by rw [e rfl];cases Jw f (L.drop n)<;>rfl⟩
theorem MoreB.over (h:MoreB L bad S f l n b)(hg:b=false->0<f)(h0:b=true\/isW [125] (L.drop n)=true):Out L bad S l n b:=by
 rcases h with ⟨a,c,d⟩|⟨a,c⟩
 . obtain ⟨g,rfl⟩: ∃ g,f=g+1:=⟨f - 1,by have:=hg a;omega⟩;exact .inl ⟨a,c,by rw [d,Jw,if_pos (h0.resolve_left (by rw [a];decide))];simp⟩
 exact .inr ⟨a,c⟩
theorem MoreB.go (h:MoreB L bad S (f+1) l n false)(h0:isW [125] (L.drop n)=false)(ho:Out L false (Hf f (L.drop n)) s m b):MoreB L bad S f (l++ [s]) m b:=by
 rcases h with ⟨_,g,c⟩|⟨i,_⟩
 . rcases ho with ⟨a,_,d⟩|⟨a,e⟩
   . refine .inl ⟨a,g,?_⟩;rw [c,Jw,if_neg (by rw [h0];decide),d];simp only [bnd]
     cases Jw f (L.drop m)<;>simp [bnd]
   refine .inr ⟨a,.inr ?_⟩;rw [c,Jw,if_neg (by rw [h0];decide),e.resolve_left Zw];rfl
 cases i
def name_adv (ho:Out L bad (Hm (L.drop n)) nm m2 false)(h:m2<=L.length):n<m2:=by
 rcases ho with ⟨_,_,e⟩|⟨e,_⟩
 . rcases dN n L.length with a|b
   . rw [Sq a] at e;split at e
     . have:=aQ List.length (Prod.mk.inj (dR e)).2;simp at this;omega
     cases e
   rw [O5 b] at e;cases e
 cases e
def adv0 {sp}(ho:Out L bad (Hm (L.drop n)) nm m2 b2)(hr:Out L b2 sp s m b)(hb:b=false)(h:m2<=L.length):n<m2:=by
 subst hb;rcases hr with ⟨_,e,_⟩|⟨e,_⟩
 . subst e;exact name_adv ho h
 cases e
end
def RdStmt (G:World)(la:Option Addr)(lc:Nat)(L:List Tk)(f:Nat):Prop:= ∀ {p n:Nat} {q:List HP} {bad:Bool},Sees q la (L.flatMap tkC)->n<=L.length->10*(L.length - n)+11<=f->
 CF G 274 [pt p] (rdH p la lc L n bad::q) (Ret fun v q'=> ∃ (s:Stm) (n':Nat) (bad':Bool),v= .agg (stC s).toArray/\q'=rdH p la lc L n' bad'::stM s::q/\(n<=n'/\(bad'=false->n<n'))/\n'<=L.length/\Out L bad (Hf f (L.drop n)) s.er n' bad')
def Zb7 (G:World)(la:Option Addr)(lc:Nat)(L:List Tk)(f:Nat):Prop:= ∀ {p n:Nat} {q:List HP} {bad:Bool},Sees q la (L.flatMap tkC)->n<=L.length->10*(L.length - n)+13<=f->
 CF G 222 [pt p] (rdH p la lc L n bad::q) (Ret fun v q'=> ∃ (a:Option Addr) (c:Nat) (l:List Stm) (n':Nat) (bad':Bool),v= .slice a l.length c/\q'=rdH p la lc L n' bad'::blM a c l::q/\n<=n'/\n'<=L.length/\Out L bad (Tz f (L.drop n)) (Zk l) n' bad')
def Us:(prog.info? 138).map (fun i=>(i.zero,i.size,i.bytes))=some (some (.agg #[I64 0,I64 0,I64 0,.string ⟨#[]⟩,.string ⟨#[]⟩,I64 0,I64 0,.string ⟨#[]⟩,I64 0,.bool false,I64 0,.slice none 0 0,I64 0,I64 0,.string ⟨#[]⟩,I64 0,.bool false,I64 0,.slice none 0 0,.slice none 0 0,.slice none 0 0,I64 0,I64 0,I64 0,.bool false]),25,296):=by kernel_rfl
def kinds_ok:CF G 304 [] ([]) (Ret fun v q'=> ∃ g,v= .slice (some ⟨g,0,none⟩) 16 16/\q'= [lsH (fun w:Bs=>Value.string (ba w)) 9 (some ⟨g,0,none⟩) 16 kindL]):=by
 refine We ntmps304 fun F cs=> ?_;apply bU (Qu (fun w:Bs=>Value.string (ba w)) kindL underlying25 N8 rfl rfl rfl rfl rfl rfl (fun _=>rfl));rintro _ _ ⟨g,rfl,rfl⟩;refine Zg ?_;exact ⟨_,⟨_,rfl,g,rfl,rfl⟩,leA⟩
def Zfo (hE:Zzv G la lc L f)(hB:Zb7 G la lc L f)(hL:Sees q la (L.flatMap tkC))(hn:L.length<=65536)(hnL:n<=L.length)(hfu:10*(L.length - n)+11<=f+1):CF G 274 [pt p] (rdH p la lc L n bad::q) (Ret fun v q'=> ∃ (s:Stm) (n':Nat) (bad':Bool),v= .agg (stC s).toArray/\q'=rdH p la lc L n' bad'::stM s::q/\(n<=n'/\(bad'=false->n<n'))/\n'<=L.length/\Out L bad (Hf (f+1) (L.drop n)) s.er n' bad'):=by
 refine aE ntmps274 fun F cs=> ?_;obtain ⟨K,hK⟩: ∃ K:Nat->Nat,K=fun j=>if bad=true then 0 else Ms kindL (L.drop n) j:=⟨_,rfl⟩
 refine Zo zeroValue138 fun n1=> ?_
 refine Zz ?_;apply Zv leA (pos_ok (hL.le leA) hn);rintro _ _ ⟨rfl,rfl⟩;refine Zo zeroValue138 fun n2=> ?_
 refine Zz ?_;apply Wn (kinds_ok);refine kd1 fun gk=> ?_
 refine Zz ?_;have n0:K 0=0:=by rw [hK];cases bad<;>rfl
 refine cH (bW (fun (s:Nat)=>s<=15) (fun s=> [(0,pt p),(2,pt n1),(3,pt n2),(4,.slice (some ⟨gk,0,none⟩) 16 16),(5,I64 ((s+1:Nat):Int))]) (fun s=>rdH p la lc L n bad::pC n2 (stC (.mk (K s) (Z0 (L.drop n)).1 (Z0 (L.drop n)).2 em em .z .z [] [] none 0 none 0 0 0 0 false)) 138::pC n1 zz2 138::lsH (fun w:Bs=>Value.string (ba w)) 9 (some ⟨gk,0,none⟩) 16 kindL::(q++F)) (fun s=>15 - s) (fun s f0 ih=> ?_) 0 Zq) Z5 (by rw [n0];exact leA);try dsimp only at f0 ih|-
 obtain hs:=f0;refine Zp ?_ ?_<;>intro h0
 . have d0:s+1<kindL.length:=by show s+1<16;omega
   refine Zz ?_;refine ld ?_ (hc:=(gF (n:=s+1) (bV _) Zj d0 rfl));refine Zz ?_;refine' Q1 ?_ ?_
   rotate_left
   . intro h1 M1;refine Zz ?_;refine ld ?_ (hc:=(gF (n:=s+1) (bV _) Zj d0 rfl));apply bD (Zje (n:=n) (bad:=bad) (s:=ba kindL[s+1]) V2 (hL.le leA) hn);exact Vi M1
   refine Zp ?_ ?_<;>intro h1
   . refine Zz ?_;have i0:K (s+1)=s+1:=by rw [hK];dsimp only;rw [J5,<-gD (d:= []) d0,baNil] at h1;rw [if_neg (by rw [h1.2.1];decide),Ms,if_pos ⟨h1.1,h1.2.2⟩]
     refine cH (ih (s+1) Zq Zq) Z5 (by rw [i0];exact leA)
   refine Zz ?_;have i0:K (s+1)=K s:=by rw [hK];dsimp only;rw [J5,<-gD (d:= []) d0,baNil] at h1;cases bad with|true=>rfl|false=>rw [if_neg Zw,if_neg Zw,Ms,if_neg (fun k=>by simp_all)]
   refine cH (ih (s+1) Zq Zq) Z5 (by rw [i0];exact leA)
 obtain rfl:s=15:=by omega
 obtain ⟨k,hk⟩: ∃ k,K 15=k:=⟨_,rfl⟩;rw [hk];rw [hK] at hk;dsimp only at hk;clear ih hK n0 f0 h0;have t0:k<=15:=by rw [<-hk];cases bad;exact Fo;exact aZ _
 have l0:k≠0->bad=false/\U8 (L.drop n)=k/\n<L.length:=fun h=>by cases bad with|true=>exact aV hk.symm h|false=>exact ⟨rfl,hk,Sc (by rw [show Ms kindL (L.drop n) 15=k from hk];exact h)⟩
 have g0:k=0\/k=1\/k=8\/k=12\/k=11\/k=15\/k=14\/(k=4\/k=5)\/(k=2\/k=3\/k=6\/k=7\/k=9\/k=10\/k=13):=Zq;rcases g0 with rfl|rfl|rfl|rfl|rfl|rfl|rfl|g0|g0
 . have m0:bad=true\/U8 (L.drop n)=0:=by cases bad;exact .inr hk;exact .inl rfl
   refine Zz ?_;apply Zv leA (Nu (n:=n) (hL.le leA) hn hnL);rintro _ _ ⟨nm,m2,b2,rfl,rfl,⟨c0,_⟩,e,b⟩;refine Zz ?_;apply Zv leA (Jn (w:= [91]) (n:=m2) (hL.le leA) hn);rintro _ _ (⟨rfl,⟨hb,hw,k0⟩,rfl⟩|⟨rfl,hw,rfl⟩)
   . subst hb;refine Zz ?_;apply Zv leA (hE 1 (n:=(m2+1)) (hL.le leA) Zq Zq Zq Zq);rintro _ _ ⟨⟨t,z1,r,l1,o1,p1,m,o,w1⟩,u,b3,rfl,rfl,x,c,a⟩;refine Zz ?_;apply Zv leA (Wh (w:= [93]) (n:=u) (hL.le leA) hn c);rintro _ _ ⟨y,b4,rfl,rfl,a0,l,g⟩;refine Zz ?_;apply Zv leA (Wh (w:= [61]) (n:=y) (hL.le leA) hn l);rintro _ _ ⟨m5,b5,rfl,rfl,j0,e0,b0⟩;refine Zz ?_;apply Zv leA (hE 1 (n:=m5) (hL.le leA) Zq Zq Zq Zq);rintro _ _ ⟨⟨k2,z2,s2,l2,o2,p2,y2,u2,w2⟩,m6,b6,rfl,rfl,v0,s0,p0⟩;refine Zz ?_;apply Zv leA (Wh (w:= [59]) (n:=m6) (hL.le leA) hn s0);rintro _ _ ⟨m7,b7,rfl,rfl,u0,r0,o0⟩;refine Zz ?_;have hr:Out L false (Qe f 0 (Z0 (L.drop n)) nm (L.drop m2)) (Stm.er (.mk 3 (Z0 (L.drop n)).1 (Z0 (L.drop n)).2 nm em (.mk k2 z2 s2 l2 o2 p2 y2 u2 w2) (.mk t z1 r l1 o1 p1 m o w1) [] [] none 0 none 0 0 0 0 false)) m7 b7:=(by rw [Qe,if_pos rfl,if_pos hw,tail_drop];exact a.bnd (g.bnd (b0.bnd (p0.bnd (o0.bnd .ret)))));apply Kr (.mk 3 (Z0 (L.drop n)).1 (Z0 (L.drop n)).2 nm em (.mk k2 z2 s2 l2 o2 p2 y2 u2 w2) (.mk t z1 r l1 o1 p1 m o w1) [] [] none 0 none 0 0 0 0 false) kK;refine Zg ?_;exact ⟨_,⟨_,rfl,(.mk 3 (Z0 (L.drop n)).1 (Z0 (L.drop n)).2 nm em (.mk k2 z2 s2 l2 o2 p2 y2 u2 w2) (.mk t z1 r l1 o1 p1 m o w1) [] [] none 0 none 0 0 0 0 false),m7,b7,rfl,rfl,⟨Zq,fun hb=>by have:=adv0 b hr hb e;omega⟩,r0,stmt_0 m0 b hr⟩,leA⟩
   refine Zz ?_;apply Zv leA (Wh (w:= [61]) (n:=m2) (hL.le leA) hn e);rintro _ _ ⟨u,b3,rfl,rfl,x,c,a⟩;refine Zz ?_;apply Zv leA (hE 1 (n:=u) (hL.le leA) Zq Zq Zq Zq);rintro _ _ ⟨⟨t,z1,r,l1,o1,p1,m,o,w1⟩,y,b4,rfl,rfl,a0,l,g⟩;refine Zz ?_;apply Zv leA (Wh (w:= [59]) (n:=y) (hL.le leA) hn l);rintro _ _ ⟨m5,b5,rfl,rfl,j0,e0,b0⟩;refine Zz ?_;have hr:Out L b2 (Qe f 0 (Z0 (L.drop n)) nm (L.drop m2)) (Stm.er (.mk 2 (Z0 (L.drop n)).1 (Z0 (L.drop n)).2 nm em (.mk t z1 r l1 o1 p1 m o w1) .z [] [] none 0 none 0 0 0 0 false)) m5 b5:=rest_0 hw rfl (a.bnd (g.bnd (b0.bnd .ret)));apply Kr (.mk 2 (Z0 (L.drop n)).1 (Z0 (L.drop n)).2 nm em (.mk t z1 r l1 o1 p1 m o w1) .z [] [] none 0 none 0 0 0 0 false) kK;refine Zg ?_;exact ⟨_,⟨_,rfl,(.mk 2 (Z0 (L.drop n)).1 (Z0 (L.drop n)).2 nm em (.mk t z1 r l1 o1 p1 m o w1) .z [] [] none 0 none 0 0 0 0 false),m5,b5,rfl,rfl,⟨Zq,fun hb=>by have:=adv0 b hr hb e;omega⟩,e0,stmt_0 m0 b hr⟩,leA⟩
 iterate 4
  focus
   obtain ⟨rfl,i,q0⟩:=l0 Zq;refine Zz ?_;apply Zv leA (Nu (n:=(n+1)) (hL.le leA) hn Zq);rintro _ _ ⟨nm,m2,b2,rfl,rfl,⟨c0,_⟩,e,b⟩;refine Zz ?_
  rotate_left
 iterate 4
  focus
   obtain ⟨rfl,i,q0⟩:=l0 Zq;refine Zz ?_
  rotate_left
 . apply Zv leA (Wh (w:= [61]) (n:=m2) (hL.le leA) hn e);rintro _ _ ⟨u,b3,rfl,rfl,x,c,a⟩;refine Zz ?_;apply Zv leA (hE 1 (n:=u) (hL.le leA) Zq Zq Zq Zq);rintro _ _ ⟨⟨t,z1,r,l1,o1,p1,m,o,w1⟩,y,b4,rfl,rfl,a0,l,g⟩;refine Zz ?_;apply Zv leA (Wh (w:= [59]) (n:=y) (hL.le leA) hn l);rintro _ _ ⟨m5,b5,rfl,rfl,j0,e0,b0⟩;refine Zz ?_;apply Kr (.mk (1:Nat) (Z0 (L.drop n)).1 (Z0 (L.drop n)).2 nm em (.mk t z1 r l1 o1 p1 m o w1) .z [] [] none 0 none 0 0 0 0 false) kK;refine Zg ?_;exact ⟨_,⟨_,rfl,(.mk (1:Nat) (Z0 (L.drop n)).1 (Z0 (L.drop n)).2 nm em (.mk t z1 r l1 o1 p1 m o w1) .z [] [] none 0 none 0 0 0 0 false),m5,b5,rfl,rfl,⟨Zq,fun _=>by omega⟩,e0,Lq Zq Zq b (by rw [i,Qe,if_neg Zw,if_pos Zw];exact a.bnd (g.bnd (b0.bnd .ret)))⟩,leA⟩
 . apply Zv leA (Nu (n:=m2) (hL.le leA) hn e);rintro _ _ ⟨wt,u,b3,rfl,rfl,⟨x,_⟩,c,a⟩;refine Zz ?_;apply Zv leA (Wh (w:= [59]) (n:=u) (hL.le leA) hn c);rintro _ _ ⟨y,b4,rfl,rfl,a0,l,g⟩;refine Zz ?_;apply Kr (.mk (8:Nat) (Z0 (L.drop n)).1 (Z0 (L.drop n)).2 nm wt .z .z [] [] none 0 none 0 0 0 0 false) kK;refine Zg ?_;exact ⟨_,⟨_,rfl,(.mk (8:Nat) (Z0 (L.drop n)).1 (Z0 (L.drop n)).2 nm wt .z .z [] [] none 0 none 0 0 0 0 false),y,b4,rfl,rfl,⟨Zq,fun _=>by omega⟩,l,Lq Zq Zq b (by rw [i,Qe,if_neg Zw,if_neg Zw,if_pos Zw];exact a.bnd (g.bnd .ret))⟩,leA⟩
 . apply Zv leA (Nu (n:=m2) (hL.le leA) hn e);rintro _ _ ⟨wt,u,b3,rfl,rfl,⟨x,_⟩,c,a⟩;refine Zz ?_;apply Zv leA (Wh (w:= [59]) (n:=u) (hL.le leA) hn c);rintro _ _ ⟨y,b4,rfl,rfl,a0,l,g⟩;refine Zz ?_;apply Kr (.mk (12:Nat) (Z0 (L.drop n)).1 (Z0 (L.drop n)).2 nm wt .z .z [] [] none 0 none 0 0 0 0 false) kK;refine Zg ?_;exact ⟨_,⟨_,rfl,(.mk (12:Nat) (Z0 (L.drop n)).1 (Z0 (L.drop n)).2 nm wt .z .z [] [] none 0 none 0 0 0 0 false),y,b4,rfl,rfl,⟨Zq,fun _=>by omega⟩,l,Lq Zq Zq b (by rw [i,Qe,if_neg Zw,if_neg Zw,if_pos Zw];exact a.bnd (g.bnd .ret))⟩,leA⟩
 . apply Zv leA (hE 1 (n:=m2) (hL.le leA) Zq Zq Zq Zq);rintro _ _ ⟨⟨t,z1,r,l1,o1,p1,m,o,w1⟩,u,b3,rfl,rfl,x,c,a⟩;refine Zz ?_;apply Zv leA (Wh (w:= [59]) (n:=u) (hL.le leA) hn c);rintro _ _ ⟨y,b4,rfl,rfl,a0,l,g⟩;refine Zz ?_;apply Kr (.mk (11:Nat) (Z0 (L.drop n)).1 (Z0 (L.drop n)).2 nm em (.mk t z1 r l1 o1 p1 m o w1) .z [] [] none 0 none 0 0 0 0 false) kK;refine Zg ?_;exact ⟨_,⟨_,rfl,(.mk (11:Nat) (Z0 (L.drop n)).1 (Z0 (L.drop n)).2 nm em (.mk t z1 r l1 o1 p1 m o w1) .z [] [] none 0 none 0 0 0 0 false),y,b4,rfl,rfl,⟨Zq,fun _=>by omega⟩,l,Lq Zq Zq b (by rw [i,Qe,if_neg Zw,if_neg Zw,if_neg Zw,if_pos Zw];exact a.bnd (g.bnd .ret))⟩,leA⟩
 . apply Zv leA (hE 1 (n:=(n+1)) (hL.le leA) Zq Zq Zq Zq);rintro _ _ ⟨⟨t,z1,r,l1,o1,p1,m,o,w1⟩,m2,b2,rfl,rfl,c0,e,b⟩;refine Zz ?_;apply Zv leA (Wh (w:= [59]) (n:=m2) (hL.le leA) hn e);rintro _ _ ⟨u,b3,rfl,rfl,x,c,a⟩;refine Zz ?_;apply Kr (.mk (15:Nat) (Z0 (L.drop n)).1 (Z0 (L.drop n)).2 em em (.mk t z1 r l1 o1 p1 m o w1) .z [] [] none 0 none 0 0 0 0 false) kK;refine Zg ?_;exact ⟨_,⟨_,rfl,(.mk (15:Nat) (Z0 (L.drop n)).1 (Z0 (L.drop n)).2 em em (.mk t z1 r l1 o1 p1 m o w1) .z [] [] none 0 none 0 0 0 0 false),u,b3,rfl,rfl,⟨Zq,fun _=>by omega⟩,c,stmt_j (.inr i) (by rw [i,Qe,if_neg Zw,if_neg Zw,if_neg Zw,if_pos Zw];exact b.bnd (a.bnd .ret))⟩,leA⟩
 . apply Zv leA (Wh (w:= [59]) (n:=(n+1)) (hL.le leA) hn Zq);rintro _ _ ⟨m2,b2,rfl,rfl,c0,e,b⟩;refine Zz ?_;apply Kr (.mk (14:Nat) (Z0 (L.drop n)).1 (Z0 (L.drop n)).2 em em .z .z [] [] none 0 none 0 0 0 0 false) kK;refine Zg ?_;exact ⟨_,⟨_,rfl,(.mk (14:Nat) (Z0 (L.drop n)).1 (Z0 (L.drop n)).2 em em .z .z [] [] none 0 none 0 0 0 0 false),m2,b2,rfl,rfl,⟨Zq,fun _=>by omega⟩,e,stmt_j (.inl i) (by rw [i,Qe,if_neg Zw,if_neg Zw,if_neg Zw,if_neg Zw];exact b.bnd .ret)⟩,leA⟩
 . refine kT 45 rfl ?_ ?_<;>intro h1
   iterate 2
    focus
     replace h1:=sp h1;refine Zz ?_;apply Zv leA (hE 1 (n:=(n+1)) (hL.le leA) Zq Zq Zq Zq);rintro _ _ ⟨⟨t,z1,r,l1,o1,p1,m,o,w1⟩,m2,b2,rfl,rfl,c0,e,b⟩;refine Zz ?_;apply Zv leA (hB (n:=m2) (hL.le leA) Zq Zq);rintro _ _ ⟨a1,c1,t1,u,b3,rfl,rfl,x,c,a⟩;refine Ye ?_;refine kT 57 rfl ?_ ?_<;>intro h2
     . replace h2:=sp h2;refine Ye ?_;apply Zv leA (Jn (w:= [101,108,115,101]) (n:=u) (hL.le leA) hn);rintro _ _ (⟨rfl,⟨hb,hw,k0⟩,rfl⟩|⟨rfl,hw,rfl⟩)
       . subst hb;refine Zz ?_;apply Zv leA (hB (n:=(u+1)) (hL.le leA) Zq Zq);rintro _ _ ⟨a2,c2,t2,y,b4,rfl,rfl,a0,l,g⟩;refine Zz ?_;apply Kr (.mk k (Z0 (L.drop n)).1 (Z0 (L.drop n)).2 em em (.mk t z1 r l1 o1 p1 m o w1) .z t1 t2 a1 c1 a2 c2 0 0 0 false) kK;refine Zg ?_;exact ⟨_,⟨_,rfl,(.mk k (Z0 (L.drop n)).1 (Z0 (L.drop n)).2 em em (.mk t z1 r l1 o1 p1 m o w1) .z t1 t2 a1 c1 a2 c2 0 0 0 false),y,b4,rfl,rfl,⟨Zq,fun _=>by omega⟩,l,by rw [Hf,i,if_pos Zq,tail_drop];exact b.bnd (a.bnd (by rw [if_pos ⟨Zq,hw⟩,tail_drop];exact g.bnd .ret))⟩,leA⟩
       refine Zz ?_;apply Kr (.mk k (Z0 (L.drop n)).1 (Z0 (L.drop n)).2 em em (.mk t z1 r l1 o1 p1 m o w1) .z t1 [] a1 c1 none 0 0 0 0 false) kK;refine Zg ?_;exact ⟨_,⟨_,rfl,(.mk k (Z0 (L.drop n)).1 (Z0 (L.drop n)).2 em em (.mk t z1 r l1 o1 p1 m o w1) .z t1 [] a1 c1 none 0 0 0 0 false),u,b3,rfl,rfl,⟨Zq,fun _=>by omega⟩,c,by rw [Hf,i,if_pos Zq,tail_drop];exact b.bnd (a.bnd (by cases b3 with|true=>exact .any|false=>rw [if_neg (fun h=>by rw [h.2] at hw;exact aV hw Zw)];exact .ret))⟩,leA⟩
     replace h2:=sp h2
    rotate_left
   focus
    refine Ye ?_
   rotate_left
   focus
    refine Zz ?_
   all_goals
    apply Kr (.mk k (Z0 (L.drop n)).1 (Z0 (L.drop n)).2 em em (.mk t z1 r l1 o1 p1 m o w1) .z t1 [] a1 c1 none 0 0 0 0 false) kK;refine Zg ?_;exact ⟨_,⟨_,rfl,(.mk k (Z0 (L.drop n)).1 (Z0 (L.drop n)).2 em em (.mk t z1 r l1 o1 p1 m o w1) .z t1 [] a1 c1 none 0 0 0 0 false),u,b3,rfl,rfl,⟨Zq,fun _=>by omega⟩,c,by rw [Hf,i,if_pos Zq,tail_drop];exact b.bnd (a.bnd (by rw [if_neg Zq];exact .ret))⟩,leA⟩
 apply Zv leA (Nu (n:=(n+1)) (hL.le leA) hn Zq);rintro _ _ ⟨nm,m2,b2,rfl,rfl,⟨c0,_⟩,e,b⟩;refine Zz ?_;apply Zv leA (Wh (w:= [59]) (n:=m2) (hL.le leA) hn e);rintro _ _ ⟨u,b3,rfl,rfl,x,c,a⟩;refine Zz ?_;apply Kr (.mk k (Z0 (L.drop n)).1 (Z0 (L.drop n)).2 nm em .z .z [] [] none 0 none 0 0 0 0 false) kK;refine Zg ?_;exact ⟨_,⟨_,rfl,(.mk k (Z0 (L.drop n)).1 (Z0 (L.drop n)).2 nm em .z .z [] [] none 0 none 0 0 0 0 false),u,b3,rfl,rfl,⟨Zq,fun _=>by omega⟩,c,Lq Zq Zq b (by rw [i,Qe,if_neg Zq,if_neg Zq,if_neg Zq,if_neg Zq];exact a.bnd .ret)⟩,leA⟩
def Zxw (hS: ∀ g,g<=f->RdStmt G la lc L g)(hL:Sees q la (L.flatMap tkC))(hn:L.length<=65536)(hnL:n<=L.length)(hfu:10*(L.length - n)+13<=f+1):CF G 222 [pt p] (rdH p la lc L n bad::q) (Ret fun v q'=> ∃ (a:Option Addr) (c:Nat) (l:List Stm) (n':Nat) (bad':Bool),v= .slice a l.length c/\q'=rdH p la lc L n' bad'::blM a c l::q/\n<=n'/\n'<=L.length/\Out L bad (Tz (f+1) (L.drop n)) (Zk l) n' bad'):=by
 refine We ntmps222 fun F cs=> ?_;apply Zv leA (Wh (w:= [123]) (hL.le leA) hn hnL);rintro _ _ ⟨x,b1,rfl,rfl,h,g0,d0⟩;refine Zz ?_;have e:MoreB L b1 (Jw f (L.drop x)) f [] x b1:=MoreB.first _ (fun _=>rfl);obtain ⟨S,r⟩:=lV (Jw f (L.drop x));rw [<-r] at e;refine cH (bW (fun (s:(Option Addr×Nat×List Stm)×Nat×Bool×Nat)=>n<=s.2.1/\s.2.1<=L.length/\s.2.2.2<=f/\(s.2.2.1=false->10*(L.length - s.2.1)+12<=s.2.2.2/\s.1.2.2.length+n<=s.2.1)/\MoreB L b1 S s.2.2.2 (Zk s.1.2.2) s.2.1 s.2.2.1) (fun s=> [(0,pt p),(3,.slice s.1.1 s.1.2.2.length s.1.2.1),(2,.slice none 0 0)]) (fun s=>rdH p la lc L s.2.1 s.2.2.1::rsH stC 25 138 s.1.1 s.1.2.1 (s.1.2.2)::stsM s.1.2.2::(q++F)) (fun s=>2*(L.length - s.2.1)+(if s.2.2.1=true then 0 else 1)) (fun s i ih=> ?_) ((none,0, []),x,b1,f) ⟨h,g0,aS _,fun _=>⟨Zy,by simpa using h⟩,e⟩) Z5 (aK leA (aK (Zc stC 25 138 _) (aK Nv leA)));try dsimp only at i ih|-
 obtain ⟨k0,o,j0,k,j⟩:=i;obtain ⟨⟨a0,c0,l⟩,m,b,g⟩:=s;dsimp only at*;clear e;refine Zz ?_;refine' Q1 ?_ ?_
 rotate_left
 . intro h1 M1;refine Zz ?_;apply bD (Zje (n:=m) (bad:=b) (s:=ba [125]) V2 (hL.le leA) hn);exact Vi M1
 refine Zp ?_ ?_<;>intro h1
 . refine Zz ?_;obtain ⟨rfl,h2⟩:=h1;replace h2:isW [125] (L.drop m)=false:=h2.resolve_left Zw;obtain ⟨m0,l0⟩:=k rfl;obtain ⟨g,rfl⟩: ∃ g2,g=g2+1:=⟨g - 1,Zq⟩;apply Zv leA (hS g Zq (n:=m) (bad:=false) (hL.le leA) o Zq);rintro _ _ ⟨t,m2,b2,rfl,rfl,⟨i0,d⟩,f0,b0⟩;apply bU (Yw (u:=t) stC underlying128 Us rfl rfl Z7 rfl);rintro _ _ ⟨g2,rfl,rfl⟩;apply bU (Z9 (f:=stC) (l:=l) (m:= [t]) underlying128 Us rfl rfl Z7 rfl rfl Zj ((bJ _).le Zj) Mz Zi Zi);rintro _ _ ⟨a3,c3,rfl,rfl⟩;refine Zz ?_;apply X.sts (l:=l) (s:=t) Zj Zj;refine Zs (ih ((a3,c3,l++ [t]),m2,b2,g) ⟨Zy,f0,Zy,fun y=>⟨by have:=d y;dsimp only;omega,by have:=d y;simp;omega⟩,by rw [Ns];exact j.go h2 b0⟩ (by dsimp only;cases b2 with|true=>simp;omega|false=>have:=d rfl;simp;omega))
 refine Zz ?_;apply Zv leA (Wh (w:= [125]) (n:=m) (hL.le leA) hn o);rintro _ _ ⟨m4,b4,rfl,rfl,h0,e0,z⟩;refine Zz ?_;apply X.fzB (m:=l);refine Zl (rdH p la lc L m4 b4::blM a0 c0 l::q) func222 (Qq results222 rfl) ⟨_,rfl,a0,c0,l,m4,b4,rfl,rfl,Zq,e0,by rw [Tz];refine d0.bnd ?_;rw [<-r];exact (j.over (fun y=>by have:=k y;omega) (by revert h1;cases b<;>simp;exact id)).bnd (z.bnd .ret)⟩
def Zfa (hn:L.length<=65536): ∀ f,RdStmt G la lc L f/\Zb7 G la lc L f:=by
 intro f
 induction f using Nat.strongRecOn with
 |ind f ih=>
  cases f with
  |zero=>exact ⟨fun c a b=>by omega,fun c a b=>by omega⟩
  |succ f=>exact ⟨fun c a b=>Zfo (Zf2 hn f).1 (ih f (Nat.lt_succ_self _)).2 c hn a b,fun c a b=>Zxw (fun g d=>(ih g Zq).1) c hn a b⟩
section
variable {l:List Stm}
def Ia {n:Int}{ba:Option Addr}(h:Kn q fun M=>BlkAt M ba bc body:=by first|exact Zyz|exact knA):Kn q fun M=>(Dec.mk k ln cl nm n body ba bc).At M:=h
def Fj {p}(s:Dec)(h:Kn q fun M=>s.At M)(K:X P G fr Q todo p ds cs (dcM s::q)):X P G fr Q todo p ds cs q:= .le (dP h) K
def decl_ne: ∀ j,j<6->declL.getD (j+1) []≠ []:=by decide
def decl_ok (hL:Sees q la (L.flatMap tkC))(hn:L.length<=65536)(hnL:n<=L.length)(hT: ∀ t∈L,0<=t.n/\t.n<=2147483647)(hfu:10*(L.length - n)+13<=f+10):CF G 154 [pt p] (rdH p la lc L n bad::q) (Ret fun v q'=> ∃ (d:Dec) (n':Nat) (bad':Bool),v= .agg (dcC d).toArray/\q'=rdH p la lc L n' bad'::dcM d::q/\(n<=n'/\(bad'=false->n<n'))/\n'<=L.length/\Out L bad (Ni f (L.drop n)) d.er n' bad'):=by
 refine aE ntmps154 fun F cs=> ?_;obtain ⟨K,hK⟩: ∃ K:Nat->Nat,K=fun j=>if bad=true then 0 else Ms declL (L.drop n) j:=⟨_,rfl⟩
 refine Zo zeroValue305 fun n1=> ?_
 refine Zz ?_;apply Zv leA (pos_ok (hL.le leA) hn);rintro _ _ ⟨rfl,rfl⟩;refine Zo zeroValue305 fun n2=> ?_
 refine Zz ?_;apply bU (Qu (fun w:Bs=>Value.string (ba w)) declL underlying25 N8 rfl rfl rfl rfl rfl rfl (fun _=>rfl));rintro _ _ ⟨gk,rfl,rfl⟩;refine Zz ?_;have i0:K 0=0:=by rw [hK];cases bad<;>rfl
 refine cH (bW (fun (s:Nat)=>s<=6) (fun s=> [(0,pt p),(2,pt n1),(3,pt n2),(4,.slice (some ⟨gk,0,none⟩) 7 7),(5,I64 ((s+1:Nat):Int))]) (fun s=>rdH p la lc L n bad::pC n2 (dcC (.mk (K s) (Z0 (L.drop n)).1 (Z0 (L.drop n)).2 em 0 [] none 0)) 305::pC n1 [I64 0,I64 0,I64 0,.string ⟨#[]⟩,I64 0,.slice none 0 0] 305::lsH (fun w:Bs=>Value.string (ba w)) 9 (some ⟨gk,0,none⟩) 7 declL::(q++F)) (fun s=>6 - s) (fun s d0 ih=> ?_) 0 Zq) Z5 (by rw [i0];exact leA);try dsimp only at d0 ih|-
 obtain hs:=d0;refine Zp ?_ ?_<;>intro h0
 . have a0:s+1<declL.length:=by show s+1<7;omega
   refine Zz ?_;refine ld ?_ (hc:=(gF (n:=s+1) (bV _) Zj a0 rfl));apply bD (Zje (n:=n) (bad:=bad) (s:=ba declL[s+1]) V2 (hL.le leA) hn);refine Zp ?_ ?_<;>intro h1
   . refine Zz ?_;have f0:K (s+1)=s+1:=by rw [hK];dsimp only;rw [J5,<-gD (d:= []) a0] at h1;rw [if_neg (by rw [h1.1];decide),Ms,if_pos ⟨decl_ne s Zq,h1.2⟩]
     refine cH (ih (s+1) Zq Zq) Z5 (by rw [f0];exact leA)
   refine Zz ?_;have f0:K (s+1)=K s:=by rw [hK];dsimp only;rw [J5,<-gD (d:= []) a0] at h1;cases bad with|true=>rfl|false=>rw [if_neg Zw,if_neg Zw,Ms,if_neg (fun k=>by simp_all)]
   refine cH (ih (s+1) Zq Zq) Z5 (by rw [f0];exact leA)
 obtain rfl:s=6:=by omega
 obtain ⟨k,u⟩: ∃ k,K 6=k:=⟨_,rfl⟩;rw [u];rw [hK] at u;dsimp only at u;clear ih hK i0 d0 h0;have m0:k<=6:=by rw [<-u];cases bad;exact Fo;exact aZ _
 have k0:k≠0->bad=false/\dkS (L.drop n)=k/\n<L.length:=fun h=>by cases bad with|true=>exact aV u.symm h|false=>exact ⟨rfl,u,Sc (by rw [show Ms declL (L.drop n) 6=k from u];exact h)⟩
 have g0:k=0\/k=1\/k=6\/k=2\/k=5\/(k=3\/k=4):=Zq;rcases g0 with rfl|rfl|rfl|rfl|rfl|g0
 . refine Zz ?_;apply Fj (.mk ((0:Nat):Int) (Z0 (L.drop n)).1 (Z0 (L.drop n)).2 em 0 [] none 0) Ia;refine Zg ?_;exact ⟨_,⟨_,rfl,(.mk ((0:Nat):Int) (Z0 (L.drop n)).1 (Z0 (L.drop n)).2 em 0 [] none 0),n,true,rfl,rfl,⟨aS _,fun h=>by cases h⟩,hnL,.inr ⟨rfl,by cases bad with|true=>exact .inl rfl|false=>exact .inr (by rw [Ni,if_pos (show dkS (L.drop n)=0 from u)])⟩⟩,leA⟩
 iterate 5
  focus
   obtain ⟨rfl,l,o0⟩:=k0 Zq;refine Zz ?_;apply Zv leA (Nu (n:=(n+1)) (hL.le leA) hn Zq);rintro _ _ ⟨nm,m2,b2,rfl,rfl,⟨n0,_⟩,r,i⟩;refine Zz ?_
  rotate_left
 . apply Zv leA (Wh (w:= [61]) (n:=m2) (hL.le leA) hn r);rintro _ _ ⟨e,b3,rfl,rfl,o,b,a⟩;refine Zz ?_;apply Zv leA (Jn (w:= [45]) (n:=e) (hL.le leA) hn);rintro _ _ (⟨rfl,⟨hb,hw,l0⟩,rfl⟩|⟨rfl,hw,rfl⟩)
   . subst hb;refine Zz ?_;apply Zv leA (Tg (n:=(e+1)) (hL.le leA) hn Zq);rintro _ _ ⟨z,m,b4,rfl,rfl,⟨c0,y⟩,g,c⟩;have x:0<=z/\z<=2147483647:=by rcases y with rfl|⟨t,ht,rfl⟩;omega;exact hT t ht
     refine Zz ?_;apply Zv leA (Wh (w:= [59]) (n:=m) (hL.le leA) hn g);rintro _ _ ⟨m5,b5,rfl,rfl,j0,e0,b0⟩;refine Zz ?_;try rw [show IntKind.i64.wrap (0 - z)= -z from by rw [Ue Zq Zq];omega]
     apply Fj (.mk (1:Nat) (Z0 (L.drop n)).1 (Z0 (L.drop n)).2 nm (-z) [] none 0) Ia;refine Zl (rdH p la lc L m5 b5::dcM (.mk (1:Nat) (Z0 (L.drop n)).1 (Z0 (L.drop n)).2 nm (-z) [] none 0)::q) func154 (rA_ results154) ⟨_,rfl,(.mk (1:Nat) (Z0 (L.drop n)).1 (Z0 (L.drop n)).2 nm (-z) [] none 0),m5,b5,rfl,rfl,⟨Zq,fun _=>by omega⟩,e0,by rw [Ni,l,if_neg Zq,tail_drop];refine i.bnd ?_;rw [if_neg Zw];exact (show Out L b2 (L7 1 (L.drop m2)) (-z) m b4 from a.bnd (by rw [if_pos hw,tail_drop];exact c.bnd .ret)).bnd (b0.bnd .ret)⟩
   refine Zz ?_;apply Zv leA (Tg (n:=e) (hL.le leA) hn b);rintro _ _ ⟨z,m,b4,rfl,rfl,⟨c0,y⟩,g,c⟩;have x:0<=z/\z<=2147483647:=by rcases y with rfl|⟨t,ht,rfl⟩;omega;exact hT t ht
   refine Zz ?_;apply Zv leA (Wh (w:= [59]) (n:=m) (hL.le leA) hn g);rintro _ _ ⟨m5,b5,rfl,rfl,j0,e0,b0⟩;refine Zz ?_;apply Fj (.mk (1:Nat) (Z0 (L.drop n)).1 (Z0 (L.drop n)).2 nm z [] none 0) Ia;refine Zl (rdH p la lc L m5 b5::dcM (.mk (1:Nat) (Z0 (L.drop n)).1 (Z0 (L.drop n)).2 nm z [] none 0)::q) func154 (rA_ results154) ⟨_,rfl,(.mk (1:Nat) (Z0 (L.drop n)).1 (Z0 (L.drop n)).2 nm z [] none 0),m5,b5,rfl,rfl,⟨Zq,fun _=>by omega⟩,e0,by rw [Ni,l,if_neg Zq,tail_drop];refine i.bnd ?_;rw [if_neg Zw];exact (show Out L b2 (L7 1 (L.drop m2)) z m b4 from a.bnd (by cases b3 with|true=>have h:=c.isBad;subst h;exact .any|false=>rw [if_neg (by rw [hw.resolve_left Zw];decide)];exact c)).bnd (b0.bnd .ret)⟩
 . apply Zv leA ((Zfa hn f).2 (n:=m2) (hL.le leA) Zq Zq);rintro _ _ ⟨a1,c1,t1,e,b3,rfl,rfl,o,b,a⟩;refine Zz ?_;apply Fj (.mk (6:Nat) (Z0 (L.drop n)).1 (Z0 (L.drop n)).2 nm 0 t1 a1 c1) Ia;refine Zl (rdH p la lc L e b3::dcM (.mk (6:Nat) (Z0 (L.drop n)).1 (Z0 (L.drop n)).2 nm 0 t1 a1 c1)::q) func154 (rA_ results154) ⟨_,rfl,(.mk (6:Nat) (Z0 (L.drop n)).1 (Z0 (L.drop n)).2 nm 0 t1 a1 c1),e,b3,rfl,rfl,⟨Zq,fun _=>by omega⟩,b,by rw [Ni,l,if_neg Zq,tail_drop];refine i.bnd ?_;rw [if_pos Zw];exact a.bnd .ret⟩
 . apply Zv leA (Tg (n:=m2) (hL.le leA) hn r);rintro _ _ ⟨z,e,b3,rfl,rfl,⟨o,y⟩,b,a⟩;have x:0<=z/\z<=2147483647:=by rcases y with rfl|⟨t,ht,rfl⟩;omega;exact hT t ht
   refine Zz ?_;apply Zv leA (Wh (w:= [59]) (n:=e) (hL.le leA) hn b);rintro _ _ ⟨m,b4,rfl,rfl,c0,g,c⟩;refine Zz ?_;apply Fj (.mk (2:Nat) (Z0 (L.drop n)).1 (Z0 (L.drop n)).2 nm z [] none 0) Ia;refine Zl (rdH p la lc L m b4::dcM (.mk (2:Nat) (Z0 (L.drop n)).1 (Z0 (L.drop n)).2 nm z [] none 0)::q) func154 (rA_ results154) ⟨_,rfl,(.mk (2:Nat) (Z0 (L.drop n)).1 (Z0 (L.drop n)).2 nm z [] none 0),m,b4,rfl,rfl,⟨Zq,fun _=>by omega⟩,g,by rw [Ni,l,if_neg Zq,tail_drop];refine i.bnd ?_;rw [if_neg Zq];exact (show Out L b2 (L7 _ (L.drop m2)) z e b3 from by rw [L7,if_neg Zq,if_pos Zq];exact a).bnd (c.bnd .ret)⟩
 . apply Zv leA (Tg (n:=m2) (hL.le leA) hn r);rintro _ _ ⟨z,e,b3,rfl,rfl,⟨o,y⟩,b,a⟩;have x:0<=z/\z<=2147483647:=by rcases y with rfl|⟨t,ht,rfl⟩;omega;exact hT t ht
   refine Zz ?_;apply Zv leA (Wh (w:= [59]) (n:=e) (hL.le leA) hn b);rintro _ _ ⟨m,b4,rfl,rfl,c0,g,c⟩;refine Zz ?_;apply Fj (.mk (5:Nat) (Z0 (L.drop n)).1 (Z0 (L.drop n)).2 nm z [] none 0) Ia;refine Zl (rdH p la lc L m b4::dcM (.mk (5:Nat) (Z0 (L.drop n)).1 (Z0 (L.drop n)).2 nm z [] none 0)::q) func154 (rA_ results154) ⟨_,rfl,(.mk (5:Nat) (Z0 (L.drop n)).1 (Z0 (L.drop n)).2 nm z [] none 0),m,b4,rfl,rfl,⟨Zq,fun _=>by omega⟩,g,by rw [Ni,l,if_neg Zq,tail_drop];refine i.bnd ?_;rw [if_neg Zq];exact (show Out L b2 (L7 _ (L.drop m2)) z e b3 from by rw [L7,if_neg Zq,if_pos Zq];exact a).bnd (c.bnd .ret)⟩
 apply Zv leA (Wh (w:= [59]) (n:=m2) (hL.le leA) hn r);rintro _ _ ⟨e,b3,rfl,rfl,o,b,a⟩;refine Zz ?_;apply Fj (.mk k (Z0 (L.drop n)).1 (Z0 (L.drop n)).2 nm 0 [] none 0) Ia;refine Zl (rdH p la lc L e b3::dcM (.mk k (Z0 (L.drop n)).1 (Z0 (L.drop n)).2 nm 0 [] none 0)::q) func154 (rA_ results154) ⟨_,rfl,(.mk k (Z0 (L.drop n)).1 (Z0 (L.drop n)).2 nm 0 [] none 0),e,b3,rfl,rfl,⟨Zq,fun _=>by omega⟩,b,by rw [Ni,l,if_neg Zq,tail_drop];refine i.bnd ?_;rw [if_neg Zq];exact (show Out L b2 (L7 k (L.drop m2)) 0 m2 b2 from by rw [L7,if_neg Zq,if_neg Zq];exact .ret).bnd (a.bnd .ret)⟩
end
end Go.Proofs.YtadahhbefdnabaaGreatDoor
