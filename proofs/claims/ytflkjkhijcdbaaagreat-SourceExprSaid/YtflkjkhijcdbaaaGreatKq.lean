/- Contracts. -/
import Derived.Test.YtflkjkhijcdbaaaGreatKc
set_option maxHeartbeats 16000000
set_option maxRecDepth 100000
set_option linter.all false
namespace Go.Proofs.YtflkjkhijcdbaaaGreat
open Go Go.RowKit Wx Go.WideShapes Go.Proofs.Tryz
variable {cs:List Value}{u:Value}
structure Four where
 a:Int
 b:Int
 c:Int
 d:Int
def Four.v (k:IntKind)(x:Four):Value:= .agg [.int k x.a,.int k x.b,.int k x.c,.int k x.d].toArray
def Four.ok (k:IntKind)(x:Four):Prop:=(Lit.int k x.a).wf=true/\(Lit.int k x.b).wf=true/\(Lit.int k x.c).wf=true/\(Lit.int k x.d).wf=true
theorem S9 {i:Nat}(h:(cs.drop i).take 1= [u]):cs[i]? =some u:=by
 have a:=bL (fun l=>l[0]?) h;simpa [eO,fG] using a
theorem four_of {v x y:Value}(hl:cs.length=4)(e0:cs[0]? =some u)(e1:cs[1]? =some v)(e2:cs[2]? =some x)(e3:cs[3]? =some y):cs= [u,v,x,y]:=by
 apply iH;intro i
 match i with
 |0=>rw [e0];rfl
 |1=>rw [e1];rfl
 |2=>rw [e2];rfl
 |3=>rw [e3];rfl
 |i+4=>rw [cT (by omega),cT (by simp)]
theorem Zkm {H:Type}{enc:TypeId×Value->H}{P:Program}{w w2:World}{base base2:Nat}{r:Reach}{spare:Nat->Bool}{held:Bool}{t e:TypeId}{k:IntKind}{v:Value}{d:DataW H}{p:List MemPlace}(ht:P.underlying t=some (.array 4 e))(he:P.underlying e=some (.int k))
 (c1:P.cellsOf t=4) (c2:P.cellsOf e=1) (hok:Value.okWide P w2 r base2 t v) (h:DataW.Trod enc P w base spare held t v d p): ∃ x:Four,v=x.v k/\x.ok k:=by
 have a: ∃ cs,v= .agg cs/\cs.size=P.cellsOf t:=by
  simp only [Value.okWide,ht] at hok;obtain ⟨cs,h1,h2,_⟩:=hok;exact ⟨cs,h1,h2⟩
 obtain ⟨cs,rfl,hs⟩:=a;obtain ⟨f,h⟩:=h;obtain ⟨xs,m,_,_,b,y,z⟩:=DataW.trod_array ht h;rw [c1] at b
 have g: ∀ i,i<4-> ∃ n,(Value.agg cs).cells.toList[i]? =some (.int k n)/\(Lit.int k n).wf=true:=fun i hi=>by
  have c:=z i hi;rw [aH (by omega),c2,gQ] at c;obtain ⟨n,hn,_,hw⟩:=DataW.trod_int he c;exact ⟨n,S9 hn,hw⟩
 obtain ⟨u,e0,l⟩:=g 0 (by omega);obtain ⟨s,e1,w1⟩:=g 1 (by omega);obtain ⟨q,e2,w2⟩:=g 2 (by omega);obtain ⟨o,e3,j⟩:=g 3 (by omega);refine ⟨⟨u,s,q,o⟩,?_,l,w1,w2,j⟩;have:=four_of b e0 e1 e2 e3;unfold Four.v;simp only [Value.cells] at this;dsimp only;rw [<-this]
theorem Do {n:Int}(h:(Lit.int .i32 n).wf=true): -2147483648<=n/\n<=2147483647:=by
 simp [Lit.wf,IntKind.min,IntKind.max,IntKind.signed,IntKind.bits] at h;omega
end Go.Proofs.YtflkjkhijcdbaaaGreat
