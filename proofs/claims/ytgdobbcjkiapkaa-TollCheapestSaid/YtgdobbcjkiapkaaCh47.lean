import Derived.Test.YtgdobbcjkiapkaaCh10
import Derived.Test.YtgdobbcjkiapkaaCh19
import Derived.Test.YtgdobbcjkiapkaaCh41
namespace Go.Proofs.Ytgdobbcjkiapkaa
set_option maxRecDepth 100000
set_option maxHeartbeats 4000000
set_option linter.unusedSimpArgs false
set_option linter.unusedVariables false
section
open Go Go.Conc Go.RowKit
theorem Xd {w W:World} {a:Option Addr} {l:List Int} (hh:w.heap=W.heap) (h:Aq W a l):Aq w a l:=by
 rcases h with h | ⟨b,o,e,h⟩
 ·exact .inl h
 ·exact .inr ⟨b,o,e,fun i hi=>by simpa [World.cell?,hh] using h i hi⟩
theorem Wu {w:World} {a:Option Addr} {len cap:Nat} {zs:List Int}
  (h:(a=none∧len=0∧cap=0∧zs=[])∨∃ x,a=some x∧len≤cap∧cap≤maxLen∧zs.length=cap∧(∀ i,i < zs.length→w.cell? (x.add i)=some (.int .i64 (zs.getD i 0)))∧∀ n∈zs,(Lit.int .i64 n).wf=true) :
  ∃ l:List Int,Aq w a l∧l.length=len∧len≤maxLen∧(l=[]∨∀ ad,a=some ad→ad.block < w.heap.size):=by
 rcases h with ⟨rfl,rfl,rfl,rfl⟩ | ⟨x,rfl,h1,h2,h3,h4,_⟩
 ·exact ⟨[], .inl rfl,rfl,Nat.zero_le _, .inl rfl⟩
 ·by_cases h0:len=0
  ·exact ⟨[], .inl rfl,h0.symm,by omega, .inl rfl⟩
  ·obtain ⟨b,o,sp⟩:=x;have c0:=h4 0 (by omega)
   have hsp:sp=none:=by
    cases sp with
    | none=>rfl
    | some y =>
     simp only [Addr.add,if_true,World.cell?] at c0
     split at c0 <;> simp at c0
   subst hsp
   have key:∀ i,i < zs.length→w.cell? ⟨b,o+i,none⟩=some (.int .i64 (zs.getD i 0)):=fun i hi=>by
    have:=h4 i hi
    rwa [show (⟨b,o,none⟩:Addr).add i=⟨b,o+i,none⟩ by simp only [Addr.add];split <;> simp_all] at this
   refine ⟨zs.take len, .inr ⟨b,o,rfl,fun i hi =>?_⟩,by rw [List.length_take];omega,by omega, .inr fun ad e=>by cases e;exact lt_of_cell (key 0 (by omega))⟩;rw [List.length_take] at hi;rw [key i (by omega),List.getElem_take,List.getD_eq_getElem?_getD,List.getElem?_eq_getElem (by omega)];rfl
theorem VE {W w w' W':World} (h:Below w.heap.size w w') (hh:w.heap=W.heap) (ho:w.os=W.os) (hu:w.output=W.output) (hh':W'.heap=w'.heap) (ho':W'.os=w'.os) (hu':W'.output=w'.output):Below W.heap.size W { W' with tape:=W.tape } :=
 ⟨ho'.trans (h.os.trans ho),rfl,hu'.trans (h.output.trans hu),by show W.heap.size≤W'.heap.size;rw [hh',← hh];exact h.size,fun k hk=>by show W'.heap[k]? = _;rw [hh',← hh];exact h.block k (by rw [hh];exact hk)⟩
theorem YB {f:FuncId} {args:Array Value} {W:World} {Post:Value→World→Prop} (hi:Try.prog.inits.idxOf? f=none)
  (h:∀ (M:Machine) (w:World),w.heap=W.heap→Ed Try.prog M f args w (fun e w'=>e = .returned (.bool true)∧Below w.heap.size w w'))
  (hp:∀ W':World,Below W.heap.size W { W' with tape:=W.tape }→Post (.bool true) W') :
  ∃ N last o w' t',runNT Try.prog (N+1) (solo (G (Frame.enter Try.prog f args .normal) []) W) #[]=(.ended o w',t')∧runN Try.prog N (solo (G (Frame.enter Try.prog f args .normal) []) W) = .next last∧step Try.prog last = .ended o w'∧Conc.Good Try.prog Post last o w' t':=by
 refine Yj (R:=fun e w'=>e = .returned (.bool true)∧∃ w:World,w.heap=W.heap∧w.os=W.os∧w.output=W.output∧Below w.heap.size w w') G5 hi (fun M w hh ho hu=>(h M w hh).mono fun e w' hx=>⟨hx.1,w,hh,ho,hu,hx.2⟩) ?_;rintro e w' ⟨rfl,w,hh,ho,hu,hb⟩;exact ⟨_,rfl,fun W' h1 h2 h3=>hp W' (VE hb hh ho hu h1 h2 h3)⟩
end
end Go.Proofs.Ytgdobbcjkiapkaa
