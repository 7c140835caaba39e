import Derived.Test.YtgdobbcjkiapkaaSv05
import Derived.Laws.Sem
namespace Go.Proofs.Ytgdobbcjkiapkaa
set_option maxRecDepth 100000
set_option maxHeartbeats 4000000
set_option linter.unusedSimpArgs false
set_option linter.unusedVariables false
section
open Go Go.Conc
class Cal (P:Program) {α:Type}(s:Sem α):Prop where
 out:calm P (fun _=>True) s 0
section
variable {P:Program}{α β γ:Type}
theorem Cal.bind {s:Sem α}{f:α→Sem β}(h:Cal P s) (hf:∀ a,Cal P (f a)):Cal P (s >>= f):=⟨EH h.out fun a _=>(hf a).out⟩
theorem Cal.OA {s s':Sem α}(e:s=s') (h:Cal P s'):Cal P s:=e ▸ h
theorem Cal.CE {s:Sem α}{h:Halt}(e:s=.halt h):Cal P s:=by rw[e];exact⟨.inl rfl⟩
theorem Cal.GV {s:Sem α}{a:α}(e:s=.pure a):Cal P s:=by rw[e];exact⟨⟨rfl,trivial⟩⟩
theorem Cal.GX {s:Sem α}{f:α→Sem β}{r:Sem β}(e:r=(s >>= f)) (h:Cal P s) (hf:∀ a,Cal P (f a)):Cal P r:=by rw[e];exact Cal.bind h hf
theorem Cal.JE {c:Prop} [Decidable c] {s t r:Sem α}(e:r=if c then s else t) (hs:Cal P s) (ht:Cal P t):Cal P r:=by rw[e];split<;>assumption
instance (s:Sem α) (f:α→Sem β) [h:Cal P s] [hf:∀ a,Cal P (f a)]:Cal P (s >>= f):=Cal.bind h hf
theorem Cal.ite {c:Prop} [Decidable c] {s t:Sem α}(hs:Cal P s) (ht:Cal P t):Cal P (if c then s else t):=by split<;>assumption
instance (a:α):Cal P (pure a:Sem α):=⟨⟨rfl,trivial⟩⟩
instance (a:α):Cal P (Sem.pure a:Sem α):=⟨⟨rfl,trivial⟩⟩
instance (c:Prop) [Decidable c] (s t:Sem α) [hs:Cal P s] [ht:Cal P t]:Cal P (if c then s else t):=by split<;>infer_instance
instance (g:α→β) (s:Sem α) [h:Cal P s]:Cal P (g <$> s):=by
 have e:(g <$> s)=(s >>= fun a=>pure (g a)):=rfl;rw[e];infer_instance
instance (a:Addr) (m:Mode):Cal P (load a m):=⟨fun _=>⟨rfl,trivial⟩⟩
instance (a:Addr) (v:Value) (m:Mode):Cal P (store a v m):=⟨⟨rfl,trivial⟩⟩
instance (o:Obj):Cal P (newObj o):=⟨fun _=>⟨rfl,trivial⟩⟩
instance (r:Nat):Cal P (shape r):=⟨fun _=>⟨rfl,trivial⟩⟩
instance (a:Addr) (n:Nat):Cal P (freeze a n):=⟨⟨rfl,trivial⟩⟩
instance (a:Addr):Cal P (frozen a):=⟨fun _=>⟨rfl,trivial⟩⟩
instance (r:Nat):Cal P (getObj r):=⟨fun _=>⟨rfl,trivial⟩⟩
instance (r:Nat) (o:Obj):Cal P (setObj r o):=⟨⟨rfl,trivial⟩⟩
instance (q:Question):Cal P (choose q):=⟨fun _=>⟨rfl,trivial⟩⟩
instance:Cal P program:=⟨⟨rfl,trivial⟩⟩
instance (b:Nat):Cal P (askRoom b):=by unfold askRoom;split<;>exact⟨⟨rfl,trivial⟩⟩
instance (f:FuncId):Cal P (mark (.extern f)):=⟨⟨rfl,trivial⟩⟩
instance (h:Halt):Cal P (Sem.halt h:Sem α):=⟨.inl rfl⟩
instance (w:String):Cal P (stuck w:Sem α):=⟨.inl rfl⟩
instance (u:Unsupported):Cal P (unsupported u:Sem α):=⟨.inl rfl⟩
instance (v:Value):Cal P (goPanic v:Sem α):=⟨.inl rfl⟩
instance (m:String):Cal P (fatal m:Sem α):=⟨.inl rfl⟩
instance (m:String):Cal P (Go.throw m:Sem α):=⟨.inl rfl⟩
theorem Cal.P8 {f:β→Sem γ}(hf:∀ b,Cal P (f b)):∀ l:List β,Cal P (l.mapM f)
 | []=>by simp only[List.mapM_nil];infer_instance
 | x::l=>by
  have:=Cal.P8 hf l;simp only[List.mapM_cons]
  infer_instance
instance {f:β→Sem γ} [hf:∀ b,Cal P (f b)] (l:List β):Cal P (l.mapM f):=Cal.P8 hf l
theorem Cal.Iz {f:β→Sem γ}(hf:∀ b,Cal P (f b)) (l:Array β):Cal P (l.mapM f):=by
 rw[Array.mapM_eq_mapM_toList];infer_instance
instance {f:β→Sem γ} [hf:∀ b,Cal P (f b)] (l:Array β):Cal P (l.mapM f):=Cal.Iz hf l
theorem Cal.O5 {f:γ→β→Sem γ}(hf:∀ c b,Cal P (f c b)):∀ (l:List β) (c:γ),Cal P (l.foldlM f c)
 | [],c=>by simp only[List.foldlM_nil];infer_instance
 | x::l,c=>by
  have:=Cal.O5 hf l;simp only[List.foldlM_cons]
  infer_instance
instance {f:γ→β→Sem γ} [hf:∀ c b,Cal P (f c b)] (l:List β) (c:γ):Cal P (l.foldlM f c):=Cal.O5 hf l c
theorem Cal.KA {f:β→γ→Sem (ForInStep γ)}(hf:∀ b c,Cal P (f b c)):∀ (l:List β) (c:γ),Cal P (forIn l c f)
 | [],c=>by simp only[List.forIn_nil];infer_instance
 | x::l,c=>by
  have:=Cal.KA hf l;simp only[List.forIn_cons];refine Cal.bind (hf _ _) (fun s=>?_)
  cases s<;>infer_instance
theorem Cal.O4:∀ (l:List β) (c:γ) (f:(b:β)→b∈l→γ→Sem (ForInStep γ)) (_:∀ b h c,Cal P (f b h c)),Cal P (forIn' l c f)
 | [],c,f,hf=>by simp only[List.forIn'_nil];infer_instance
 | x::l,c,f,hf=>by
  simp only[List.forIn'_cons];refine Cal.bind (hf _ _ _) (fun s=>?_)
  cases s with
  | done b=>infer_instance
  | yield b=>exact Cal.O4 l b _ fun b h c=>hf b _ c
instance {f:β→γ→Sem (ForInStep γ)} [hf:∀ b c,Cal P (f b c)] (l:List β) (c:γ):Cal P (forIn l c f):=Cal.KA hf l c
theorem Cal.GG {f:β→γ→Sem (ForInStep γ)}(hf:∀ b c,Cal P (f b c)) (l:Array β) (c:γ):Cal P (forIn l c f):=by
 rw[← Array.forIn_toList];exact Cal.KA hf _ _
theorem Cal.EP {f:Nat→γ→Sem (ForInStep γ)}(hf:∀ b c,Cal P (f b c)) (r:Std.Legacy.Range) (c:γ):Cal P (forIn r c f):=by
 rw[Std.Legacy.Range.forIn_eq_forIn_range'];exact Cal.KA hf _ _
theorem Cal.Ec (r:Std.Legacy.Range) (c:γ) (f:(b:Nat)→b∈r→γ→Sem (ForInStep γ)) (hf:∀ b h c,Cal P (f b h c)):Cal P (forIn' r c f):=by
 rw[Std.Legacy.Range.forIn'_eq_forIn'_range'];exact Cal.O4 _ _ _ fun b h c=>hf b _ c
instance:Cal P (mark .noRoom):=⟨⟨rfl,trivial⟩⟩
instance:Cal P (sys .env):=⟨fun _=>⟨rfl,trivial⟩,.inl fun w h=>by simp[World.sys,show w.ask (Kernel.perform .env w.os)=((.strings w.os.env,w.os),w) from rfl]at h⟩
end
section
variable {P:Program}
theorem caL {α:Type _}{s:Sem α}(h:Cal P s:=by repeat' (first|infer_instance|(refine Cal.bind ?_ (fun _=>?_))|(refine Cal.GG (fun _ _=>?_) _ _)|(refine Cal.EP (fun _ _=>?_) _ _)|(refine Cal.Ec _ _ _ (fun _ _ _=>?_))|(refine Cal.Iz (fun _=>?_) _)|(refine Cal.ite ?_ ?_)|split|(intro _)|dsimp only)):Cal P s:=h
instance (r:Nat):Cal P (viewAt r):=by
 unfold viewAt;exact caL
instance (r:Nat):Cal P (numberAt r):=by
 unfold numberAt;exact caL
instance (r:Nat):Cal P (cellsIn r):=by
 unfold cellsIn;exact caL
instance (a:Addr) (l:Bool):Cal P (asNumber a l):=by
 unfold asNumber;exact caL
instance (n:Addr):Cal P (behindNumber n):=by
 unfold behindNumber;exact caL
instance (n:Addr):Cal P (backFromNumber n):=by
 unfold backFromNumber;exact caL
instance (a:Addr):Cal P (noView a):=by
 unfold noView;exact caL
instance (a:Addr):Cal P (markStringish a):=by
 unfold markStringish;exact caL
instance (a:Addr):Cal P (stringish a):=by
 unfold stringish;exact caL
instance (a:Addr) (b:Addr):Cal P (mayBeOne a b):=by
 unfold mayBeOne;exact caL
instance (a:Addr) (b:Addr):Cal P (sameAddr a b):=by
 unfold sameAddr;exact caL
instance (a:Option Addr) (b:Option Addr):Cal P (samePointer a b):=by
 unfold samePointer;exact caL
instance (t:TypeId):Cal P (typeInfo t):=by
 unfold typeInfo;exact caL
instance (t:TypeId):Cal P (underlying t):=by
 unfold underlying;exact caL
instance (n:String):Cal P (cutType n):=by
 unfold cutType;exact caL
instance (n:String):Cal P (globalAddr n):=by
 unfold globalAddr;exact caL
instance (t:TypeId):Cal P (typeStr t):=by
 unfold typeStr;exact caL
instance (t:TypeId):Cal P (zeroValue t):=by
 unfold zeroValue;exact caL
instance (t:TypeId):Cal P (sizeOf t):=by
 unfold sizeOf;exact caL
instance (t:TypeId):Cal P (isAgg t):=by
 unfold isAgg;exact caL
theorem H7 (a:Addr):∀ (n i:Nat) (acc:Array Value),Cal P (loadCellsFrom a i n acc)
 | 0,i,acc=>by unfold loadCellsFrom;infer_instance
 | n+1,i,acc=>by
  unfold loadCellsFrom;exact Cal.bind inferInstance fun _=>H7 a n _ _
instance (a:Addr) (n:Nat):Cal P (loadCells a n):=H7 a n 0 #[]
theorem JH (a:Addr):∀ (vs:List Value) (i:Nat),Cal P (storeCells a vs i)
 | [],i=>by unfold storeCells;infer_instance
 | v::vs,i=>by
  unfold storeCells;exact Cal.bind inferInstance fun _=>JH a vs _
instance (a:Addr) (vs:List Value) (i:Nat):Cal P (storeCells a vs i):=JH a vs i
instance (t:TypeId) (a:Addr):Cal P (loadVar t a):=by
 unfold loadVar;exact caL
instance (t:TypeId) (a:Addr) (v:Value):Cal P (storeVar t a v):=by
 unfold storeVar;exact caL
instance (e:TypeId) (c:Array Value):Cal P (newRow e c):=by
 unfold newRow;exact caL
instance (t:TypeId) (v:Value):Cal P (newVar t v):=by
 unfold newVar;exact caL
instance (t:TypeId):Cal P (elemOf t):=by
 unfold elemOf;exact caL
instance (t:TypeId) (cs:Array Value) (o:Nat):Cal P (part t cs o):=by
 unfold part;exact caL
instance {α:Type}(m:String):Cal P (panicString m:Sem α):=by
 unfold panicString;exact caL
instance {α:Type}(e:RuntimeError):Cal P (runtimePanic e:Sem α):=by
 unfold runtimePanic;exact caL
instance {α:Type}(k:IntKind) (x y:Int) (c:BoundsCode):Cal P (boundsPanic k x y c:Sem α):=by
 unfold boundsPanic;exact caL
instance (v:Value):Cal P (asIntOf v):=by
 unfold asIntOf;exact caL
instance (v:Value):Cal P (asInt v):=by
 unfold asInt;exact caL
instance (v:Value):Cal P (asBool v):=by
 unfold asBool;exact caL
instance (v:Value):Cal P (asString v):=by
 unfold asString;exact caL
instance (v:Value):Cal P (asAgg v):=by
 unfold asAgg;exact caL
instance (v:Value):Cal P (asAddr v):=by
 unfold asAddr;exact caL
instance (v:Value):Cal P (Instr.sureAddr v):=by
 unfold Instr.sureAddr;exact caL
instance (e:TypeId) (h:Bool) (o:Value):Cal P (Instr.alloc e h o):=by
 unfold Instr.alloc;exact caL
instance (e:TypeId) (v:Value):Cal P (Instr.box e v):=by
 unfold Instr.box;exact caL
instance (t:TypeId) (p:Array (Nat×Value)):Cal P (Instr.build t p):=by
 unfold Instr.build;exact caL
instance (t:TypeId) (l:Nat) (p:Array (Nat×Value)):Cal P (Instr.buildSlice t l p):=by
 unfold Instr.buildSlice;exact caL
instance (i:Value):Cal P (Instr.entry i):=by
 unfold Instr.entry;exact caL
instance (t:Value) (i:Nat):Cal P (Instr.extract t i):=by
 unfold Instr.extract;exact caL
instance (t:TypeId) (x:Value) (f:Nat):Cal P (Instr.field t x f):=by
 unfold Instr.field;exact caL
instance (op:BinOp) (k:FloatKind) (x:Nat) (y:Nat):Cal P (Op.floatArith op k x y):=by
 unfold Op.floatArith;exact caL
instance (op:BinOp) (k:FloatKind) (x:Nat) (y:Nat):Cal P (Op.floatCmp op k x y):=by
 unfold Op.floatCmp;exact caL
instance (op:BinOp) (k:IntKind) (x:Int) (y:Int):Cal P (Op.intArith op k x y):=by
 unfold Op.intArith;exact caL
instance (op:BinOp) (k:IntKind) (x:Int) (y:Int):Cal P (Op.intBits op k x y):=by
 unfold Op.intBits;exact caL
instance (op:BinOp) (x:Int) (y:Int):Cal P (Op.intCmp op x y):=by
 unfold Op.intCmp;exact caL
instance (op:BinOp) (k:IntKind) (x:Int) (y:Int):Cal P (Op.intDiv op k x y):=by
 unfold Op.intDiv;exact caL
instance (op:BinOp) (k:IntKind) (x:Int) (j:IntKind) (y:Int):Cal P (Op.shift op k x j y):=by
 unfold Op.shift;exact caL
instance (op:BinOp) (x:ByteArray) (y:ByteArray):Cal P (Op.stringOp op x y):=by
 unfold Op.stringOp;exact caL
instance (a:Addr):Cal P (byteOf a):=by
 unfold byteOf;exact caL
instance (a:Addr) (f:Field):Cal P (fieldPlace a f):=by
 unfold fieldPlace;exact caL
instance (s:FloatKind) (b:Nat) (d:FloatKind):Cal P (Conv.floatToFloat s b d):=by
 unfold Conv.floatToFloat;exact caL
instance (a:Value) (b:Value):Cal P (Instr.keyThatStays a b):=by
 unfold Instr.keyThatStays;exact caL
instance (a:Addr) (b:Addr):Cal P (Op.twoPlaces a b):=by
 unfold Op.twoPlaces;exact caL
instance (k:IntKind) (a:Addr) (b:Addr):Cal P (Op.addrSub k a b):=by
 unfold Op.addrSub;exact caL
instance (op:BinOp) (a:Addr) (b:Addr):Cal P (Op.addrCmp op a b):=by
 unfold Op.addrCmp;exact caL
instance (k:IntKind) (a:Addr) (n:Int):Cal P (Op.addrMod k a n):=by
 unfold Op.addrMod;exact caL
instance (op:BinOp) (k:FloatKind) (x:Nat) (y:Nat):Cal P (Op.Complex.arith op k x y):=by
 unfold Op.Complex.arith;exact caL
instance (op:BinOp) (k:FloatKind) (x:Nat) (y:Nat):Cal P (Op.Complex.cmp op k x y):=by
 unfold Op.Complex.cmp;exact caL
instance (a:FloatKind) (x:Nat) (b:FloatKind):Cal P (Op.Complex.conv a x b):=by
 unfold Op.Complex.conv;exact caL
instance (a:Nat) (b:Nat) (c:Nat) (d:Nat):Cal P (Op.Complex.product a b c d):=by
 unfold Op.Complex.product;exact caL
instance (s:Nat) (a:Nat) (b:Nat) (c:Nat) (d:Nat):Cal P (Op.Complex.corrected s a b c d):=by
 unfold Op.Complex.corrected;exact caL
instance (a:Nat) (b:Nat) (c:Nat) (d:Nat):Cal P (Op.Complex.quotient a b c d):=by
 unfold Op.Complex.quotient;exact caL
instance (op:BinOp) (k:FloatKind) (a:Nat) (b:Nat) (c:Nat) (d:Nat):Cal P (Op.complexOp op k a b c d):=by
 unfold Op.complexOp;exact caL
theorem NV  : ∀ (m:Nat) (t:TypeId) (x:Value) (y:Value),Cal P (Op.equalIn m t x y)
 | 0,t,x,y=>by
  unfold Op.equalIn;exact caL
 | m+1,t,x,y=>by
  have ih:∀ (t:TypeId) (x:Value) (y:Value),Cal P (Op.equalIn m t x y):=NV m;unfold Op.equalIn;exact caL
instance (m:Nat) (t:TypeId) (x:Value) (y:Value):Cal P (Op.equalIn m t x y):=NV m t x y
instance (t:TypeId) (x:Value) (y:Value):Cal P (Op.equal t x y):=by
 unfold Op.equal;exact caL
theorem Le  : ∀ (m:Nat) (t:TypeId) (x:Value) (y:Value),Cal P (Op.eqGuardIn m t x y)
 | 0,t,x,y=>by
  unfold Op.eqGuardIn;exact caL
 | m+1,t,x,y=>by
  have ih:∀ (t:TypeId) (x:Value) (y:Value),Cal P (Op.eqGuardIn m t x y):=Le m;unfold Op.eqGuardIn;exact caL
instance (m:Nat) (t:TypeId) (x:Value) (y:Value):Cal P (Op.eqGuardIn m t x y):=Le m t x y
instance (op:UnOp) (x:Value):Cal P (Op.unary op x):=by
 unfold Op.unary;exact caL
theorem MO (e:Bool):∀ (m:Nat) (t:TypeId) (v:Value),Cal P (Instr.checkKey e m t v)
 | 0,t,v=>by
  unfold Instr.checkKey;exact caL
 | m+1,t,v=>by
  have ih:∀ (t:TypeId) (v:Value),Cal P (Instr.checkKey e m t v):=MO e m;unfold Instr.checkKey;exact caL
instance (e:Bool) (m:Nat) (t:TypeId) (v:Value):Cal P (Instr.checkKey e m t v):=MO e m t v
theorem JI (t:TypeId) (k:Value):∀ (m:List MapEntry) (i:Nat),Cal P (Instr.findAsking t k m i)
 | [],i=>by
  unfold Instr.findAsking;exact caL
 | x0::m,i=>by
  have ih:∀ (i:Nat),Cal P (Instr.findAsking t k m i):=JI t k m;unfold Instr.findAsking;exact caL
instance (t:TypeId) (k:Value) (m:List MapEntry) (i:Nat):Cal P (Instr.findAsking t k m i):=JI t k m i
instance (t:TypeId) (k:Value) (es:List MapEntry):Cal P (Instr.findKey t k es):=by
 unfold Instr.findKey;exact caL
instance (t:TypeId) (x:Value) (i:Value) (ok:Bool):Cal P (Instr.lookup t x i ok):=by
 unfold Instr.lookup;exact caL
instance (t:TypeId) (x:Value) (i:Value):Cal P (Instr.index t x i):=by
 unfold Instr.index;exact caL
instance (t:TypeId) (s:Value):Cal P (Instr.makeChan t s):=by
 unfold Instr.makeChan;exact caL
instance (fn:Fn) (f:Array Value) (c:Array Value):Cal P (Instr.makeFunc fn f c):=by
 unfold Instr.makeFunc;exact caL
instance (t:TypeId) (x:Value):Cal P (Instr.makeInterface t x):=by
 unfold Instr.makeInterface;exact caL
instance (t:TypeId) (r:Option Value):Cal P (Instr.makeMap t r):=by
 unfold Instr.makeMap;exact caL
instance (t:TypeId) (l:Value) (c:Value):Cal P (Instr.makeSlice t l c):=by
 unfold Instr.makeSlice;exact caL
instance (t:TypeId) (m:Value) (k:Value):Cal P (Instr.mapEntry t m k):=by
 unfold Instr.mapEntry;exact caL
instance (t:TypeId) (m:Value) (s:Value) (v:Value):Cal P (Instr.entryStore t m s v):=by
 unfold Instr.entryStore;exact caL
instance (t:TypeId) (m:Value) (k:Value) (v:Value):Cal P (Instr.mapUpdate t m k v):=by
 unfold Instr.mapUpdate;exact caL
instance (i:Value) (s:Bool) (t:TypeId):Cal P (Instr.next i s t):=by
 unfold Instr.next;exact caL
instance  : Cal P (Instr.panicnil):=by
 unfold Instr.panicnil;exact caL
instance (x:Value):Cal P (Instr.panic x):=by
 unfold Instr.panic;exact caL
instance (t:TypeId) (x:Value):Cal P (Instr.range t x):=by
 unfold Instr.range;exact caL
instance (l:Nat):Cal P (Instr.getLoop l):=by
 unfold Instr.getLoop;exact caL
instance (fn:FuncId) (tmps:Array Value) (params:Array Tmp) (as_:Code) (body:Code) (ar:Option Nat):Cal P (Instr.enterLoop fn tmps params as_ body ar):=by
 unfold Instr.enterLoop;exact caL
instance (l:Nat):Cal P (Instr.beginRound l):=by
 unfold Instr.beginRound;exact caL
instance (l:Nat) (j:Option Code):Cal P (Instr.endRound l j):=by
 unfold Instr.endRound;exact caL
instance (l:Nat):Cal P (Instr.endLoop l):=by
 unfold Instr.endLoop;exact caL
instance (l:Nat) (d:Deferred):Cal P (Instr.deferInRound l d):=by
 unfold Instr.deferInRound;exact caL
instance (b:Nat):Cal P (Instr.takeDeferred b):=by
 unfold Instr.takeDeferred;exact caL
instance (g:Nat):Cal P (Instr.waits g):=by
 unfold Instr.waits;exact caL
instance (g:Nat):Cal P (Instr.ready g):=by
 unfold Instr.ready;exact caL
instance (x:Value) (y:Nat) (c:BoundsCode):Cal P (Instr.sliceBound x y c):=by
 unfold Instr.sliceBound;exact caL
instance (i:Bool) (l:Nat) (c:Nat) (lo:Option Value) (hi:Option Value) (mx:Option Value):Cal P (Instr.sliceBounds i l c lo hi mx):=by
 unfold Instr.sliceBounds;exact caL
instance (t:TypeId) (x:Value) (lo:Option Value) (hi:Option Value) (mx:Option Value):Cal P (Instr.slice t x lo hi mx):=by
 unfold Instr.slice;exact caL
instance (x:Value) (a:TypeId) (b:TypeId) (ok:Bool):Cal P (Instr.typeAssert x a b ok):=by
 unfold Instr.typeAssert;exact caL
instance (t:TypeId) (a:Value):Cal P (Instr.loadAt t a):=by
 unfold Instr.loadAt;exact caL
instance (t:TypeId) (a:Value) (v:Value):Cal P (Instr.storeAt t a v):=by
 unfold Instr.storeAt;exact caL
instance (t:TypeId) (a:Value) (f:Nat):Cal P (Instr.fieldAt t a f):=by
 unfold Instr.fieldAt;exact caL
instance (t:TypeId) (x:Value) (i:Value):Cal P (Instr.indexAt t x i):=by
 unfold Instr.indexAt;exact caL
instance (t:TypeId) (x:Value) (lo:Option Value) (hi:Option Value) (mx:Option Value):Cal P (Instr.sliceAt t x lo hi mx):=by
 unfold Instr.sliceAt;exact caL
instance (t:TypeId) (x:Value):Cal P (Instr.arrayAt t x):=by
 unfold Instr.arrayAt;exact caL
instance (d:IntKind) (n:Int):Cal P (Conv.intToInt d n):=by
 unfold Conv.intToInt;exact caL
instance (d:FloatKind) (n:Int):Cal P (Conv.intToFloat d n):=by
 unfold Conv.intToFloat;exact caL
instance (s:FloatKind) (b:Nat) (d:IntKind):Cal P (Conv.floatToInt s b d):=by
 unfold Conv.floatToInt;exact caL
instance (s:FloatKind) (a:Nat) (b:Nat) (d:FloatKind):Cal P (Conv.complexToComplex s a b d):=by
 unfold Conv.complexToComplex;exact caL
instance (n:Int):Cal P (Conv.intToString n):=by
 unfold Conv.intToString;exact caL
instance (e:TypeId) (s:ByteArray):Cal P (Conv.stringToBytes e s):=by
 unfold Conv.stringToBytes;exact caL
instance (x:Value):Cal P (Conv.bytesToString x):=by
 unfold Conv.bytesToString;exact caL
instance (e:TypeId) (s:ByteArray):Cal P (Conv.stringToRunes e s):=by
 unfold Conv.stringToRunes;exact caL
instance (x:Value):Cal P (Conv.runesToString x):=by
 unfold Conv.runesToString;exact caL
instance (a:Addr):Cal P (Conv.seenAt a):=by
 unfold Conv.seenAt;exact caL
instance (a:TypeId) (b:TypeId) (x:Value):Cal P (Conv.unsafePointer a b x):=by
 unfold Conv.unsafePointer;exact caL
instance (a:Addr) (c:Nat):Cal P (Builtin.holdsCells a c):=by
 unfold Builtin.holdsCells;exact caL
instance (s:Nat) (l:Nat) (n:Nat) (b:Option Addr) (x:Value):Cal P (Builtin.mayShare s l n b x):=by
 unfold Builtin.mayShare;exact caL
instance (v:Value):Cal P (Builtin.lenOf v):=by
 unfold Builtin.lenOf;exact caL
instance (s:Nat) (n:Nat) (v:Value):Cal P (Builtin.firstCells s n v):=by
 unfold Builtin.firstCells;exact caL
instance (a:Array TypeId) (t:TypeId) (x:Array Value):Cal P (Builtin.append_ a t x):=by
 unfold Builtin.append_;exact caL
instance (a:Array TypeId) (t:TypeId) (x:Array Value):Cal P (Builtin.cap_ a t x):=by
 unfold Builtin.cap_;exact caL
instance (a:Array TypeId) (t:TypeId) (x:Array Value):Cal P (Builtin.clear_ a t x):=by
 unfold Builtin.clear_;exact caL
instance (a:Array TypeId) (t:TypeId) (x:Array Value):Cal P (Builtin.copy_ a t x):=by
 unfold Builtin.copy_;exact caL
instance (a:Array TypeId) (t:TypeId) (x:Array Value):Cal P (Builtin.delete_ a t x):=by
 unfold Builtin.delete_;exact caL
instance (a:Array TypeId) (t:TypeId) (x:Array Value):Cal P (Builtin.len_ a t x):=by
 unfold Builtin.len_;exact caL
instance (a:Addr) (e:TypeId) (n:Nat):Cal P (variablesAt a e n):=by
 unfold variablesAt;exact caL
theorem Ld:∀ (n:Nat) (a:Addr) (acc:ByteArray),Cal P (loadBytes a acc n)
 | 0,a,acc=>by unfold loadBytes;infer_instance
 | n+1,a,acc=>by
  have ih:∀ (a:Addr) (acc:ByteArray),Cal P (loadBytes a acc n):=Ld n;unfold loadBytes;exact caL
instance (n:Nat) (a:Addr) (acc:ByteArray):Cal P (loadBytes a acc n):=Ld n a acc
theorem VV (a:Array TypeId) (t:TypeId):∀ x:Array Value,Cal P (Builtin.close_ a t x):=by
 intro x;rcases x with ⟨_|⟨a0,_|⟨a1,_|⟨a2,_|⟨a3,l⟩⟩⟩⟩⟩
 all_goals first|exact Cal.CE rfl|skip
 all_goals cases a0<;>first|exact Cal.CE rfl|skip
 all_goals (rename_i c;(try cases c)<;>first|exact Cal.CE rfl|skip)
 all_goals first|(refine Cal.GV rfl)|(refine Cal.GX rfl ?_ (fun _=>?_))|(refine Cal.JE rfl ?_ ?_)|exact Cal.OA rfl (inferInstanceAs (Cal P (runtimePanic _:Sem Value)))
 all_goals exact caL
instance (a:Array TypeId) (t:TypeId) (x:Array Value):Cal P (Builtin.close_ a t x):=VV a t x
theorem RF (a:Array TypeId) (t:TypeId):∀ x:Array Value,Cal P (Builtin.complex_ a t x):=by
 intro x;rcases x with ⟨_|⟨a0,_|⟨a1,_|⟨a2,_|⟨a3,l⟩⟩⟩⟩⟩
 all_goals first|exact Cal.CE rfl|skip
 all_goals cases a0<;>first|exact Cal.CE rfl|skip
 all_goals cases a1<;>first|exact Cal.CE rfl|skip
 all_goals first|(refine Cal.GV rfl)|(refine Cal.GX rfl ?_ (fun _=>?_))|(refine Cal.JE rfl ?_ ?_)|exact Cal.OA rfl (inferInstanceAs (Cal P (runtimePanic _:Sem Value)))
 all_goals exact caL
instance (a:Array TypeId) (t:TypeId) (x:Array Value):Cal P (Builtin.complex_ a t x):=RF a t x
theorem Ya (a:Array TypeId) (t:TypeId):∀ x:Array Value,Cal P (Builtin.imag_ a t x):=by
 intro x;rcases x with ⟨_|⟨a0,_|⟨a1,_|⟨a2,_|⟨a3,l⟩⟩⟩⟩⟩
 all_goals first|exact Cal.CE rfl|skip
 all_goals cases a0<;>first|exact Cal.CE rfl|skip
 all_goals first|(refine Cal.GV rfl)|(refine Cal.GX rfl ?_ (fun _=>?_))|(refine Cal.JE rfl ?_ ?_)|exact Cal.OA rfl (inferInstanceAs (Cal P (runtimePanic _:Sem Value)))
 all_goals exact caL
instance (a:Array TypeId) (t:TypeId) (x:Array Value):Cal P (Builtin.imag_ a t x):=Ya a t x
theorem X9 (a:Array TypeId) (t:TypeId):∀ x:Array Value,Cal P (Builtin.real_ a t x):=by
 intro x;rcases x with ⟨_|⟨a0,_|⟨a1,_|⟨a2,_|⟨a3,l⟩⟩⟩⟩⟩
 all_goals first|exact Cal.CE rfl|skip
 all_goals cases a0<;>first|exact Cal.CE rfl|skip
 all_goals first|(refine Cal.GV rfl)|(refine Cal.GX rfl ?_ (fun _=>?_))|(refine Cal.JE rfl ?_ ?_)|exact Cal.OA rfl (inferInstanceAs (Cal P (runtimePanic _:Sem Value)))
 all_goals exact caL
instance (a:Array TypeId) (t:TypeId) (x:Array Value):Cal P (Builtin.real_ a t x):=X9 a t x
theorem Lc (a:Array TypeId) (t:TypeId):∀ x:Array Value,Cal P (Builtin.ssaWrapNilChk_ a t x):=by
 intro x;rcases x with ⟨_|⟨a0,_|⟨a1,_|⟨a2,_|⟨a3,l⟩⟩⟩⟩⟩
 all_goals first|exact Cal.CE rfl|skip
 all_goals cases a1<;>first|exact Cal.CE rfl|skip
 all_goals cases a2<;>first|exact Cal.CE rfl|skip
 all_goals (rcases a0 with _|_|_|_|_|_|_|_|_|_|_|_|_|_<;>first|exact Cal.CE rfl|skip)
 all_goals (rename_i p;cases p)
 all_goals first|(refine Cal.GV rfl)|(refine Cal.GX rfl ?_ (fun _=>?_))|(refine Cal.JE rfl ?_ ?_)|exact Cal.OA rfl (inferInstanceAs (Cal P (runtimePanic _:Sem Value)))
 all_goals exact caL
instance (a:Array TypeId) (t:TypeId) (x:Array Value):Cal P (Builtin.ssaWrapNilChk_ a t x):=Lc a t x
theorem OO (a:Array TypeId) (t:TypeId):∀ x:Array Value,Cal P (Builtin.unsafeAdd_ a t x):=by
 intro x;rcases x with ⟨_|⟨a0,_|⟨a1,_|⟨a2,_|⟨a3,l⟩⟩⟩⟩⟩
 all_goals first|exact Cal.CE rfl|skip
 all_goals cases a0<;>first|exact Cal.CE rfl|skip
 all_goals first|(refine Cal.GV rfl)|(refine Cal.GX rfl ?_ (fun _=>?_))|(refine Cal.JE rfl ?_ ?_)|exact Cal.OA rfl (inferInstanceAs (Cal P (runtimePanic _:Sem Value)))
 all_goals exact caL
instance (a:Array TypeId) (t:TypeId) (x:Array Value):Cal P (Builtin.unsafeAdd_ a t x):=OO a t x
theorem MX (a:Array TypeId) (t:TypeId):∀ x:Array Value,Cal P (Builtin.unsafeSlice_ a t x):=by
 intro x;rcases x with ⟨_|⟨a0,_|⟨a1,_|⟨a2,_|⟨a3,l⟩⟩⟩⟩⟩
 all_goals first|exact Cal.CE rfl|skip
 all_goals cases a0<;>first|exact Cal.CE rfl|skip
 all_goals first|(refine Cal.GV rfl)|(refine Cal.GX rfl ?_ (fun _=>?_))|(refine Cal.JE rfl ?_ ?_)|exact Cal.OA rfl (inferInstanceAs (Cal P (runtimePanic _:Sem Value)))
 all_goals exact caL
instance (a:Array TypeId) (t:TypeId) (x:Array Value):Cal P (Builtin.unsafeSlice_ a t x):=MX a t x
theorem Jw (a:Array TypeId) (t:TypeId):∀ x:Array Value,Cal P (Builtin.unsafeSliceData_ a t x):=by
 intro x;rcases x with ⟨_|⟨a0,_|⟨a1,_|⟨a2,_|⟨a3,l⟩⟩⟩⟩⟩
 all_goals first|exact Cal.CE rfl|skip
 all_goals cases a0<;>first|exact Cal.CE rfl|skip
 all_goals (rename_i c _ _;cases c<;>first|exact Cal.CE rfl|skip)
 all_goals first|(refine Cal.GV rfl)|(refine Cal.GX rfl ?_ (fun _=>?_))|(refine Cal.JE rfl ?_ ?_)|exact Cal.OA rfl (inferInstanceAs (Cal P (runtimePanic _:Sem Value)))
 all_goals exact caL
instance (a:Array TypeId) (t:TypeId) (x:Array Value):Cal P (Builtin.unsafeSliceData_ a t x):=Jw a t x
theorem LU (a:Array TypeId) (t:TypeId):∀ x:Array Value,Cal P (Builtin.unsafeString_ a t x):=by
 intro x;rcases x with ⟨_|⟨a0,_|⟨a1,_|⟨a2,_|⟨a3,l⟩⟩⟩⟩⟩
 all_goals first|exact Cal.CE rfl|skip
 all_goals cases a0<;>first|exact Cal.CE rfl|skip
 all_goals first|(refine Cal.GV rfl)|(refine Cal.GX rfl ?_ (fun _=>?_))|(refine Cal.JE rfl ?_ ?_)|exact Cal.OA rfl (inferInstanceAs (Cal P (runtimePanic _:Sem Value)))
 all_goals exact caL
instance (a:Array TypeId) (t:TypeId) (x:Array Value):Cal P (Builtin.unsafeString_ a t x):=LU a t x
theorem I8 (a:Array TypeId) (t:TypeId):∀ x:Array Value,Cal P (Builtin.unsafeStringData_ a t x):=by
 intro x;rcases x with ⟨_|⟨a0,_|⟨a1,_|⟨a2,_|⟨a3,l⟩⟩⟩⟩⟩
 all_goals first|exact Cal.CE rfl|skip
 all_goals cases a0<;>first|exact Cal.CE rfl|skip
 all_goals first|(refine Cal.GV rfl)|(refine Cal.GX rfl ?_ (fun _=>?_))|(refine Cal.JE rfl ?_ ?_)|exact Cal.OA rfl (inferInstanceAs (Cal P (runtimePanic _:Sem Value)))
 all_goals exact caL
instance (a:Array TypeId) (t:TypeId) (x:Array Value):Cal P (Builtin.unsafeStringData_ a t x):=I8 a t x
instance (a:Value) (b:Value):Cal P (Builtin.max2 a b):=by
 unfold Builtin.max2;exact caL
instance (a:Array TypeId) (t:TypeId) (x:Array Value):Cal P (Builtin.max_ a t x):=by
 unfold Builtin.max_;exact caL
instance (a:Value) (b:Value):Cal P (Builtin.min2 a b):=by
 unfold Builtin.min2;exact caL
instance (a:Array TypeId) (t:TypeId) (x:Array Value):Cal P (Builtin.min_ a t x):=by
 unfold Builtin.min_;exact caL
instance (t:TypeId) (v:Value):Cal P (Builtin.printOne t v):=by
 unfold Builtin.printOne;exact caL
instance (ln:Bool) (c:Array Bool) (a:Array TypeId) (x:Array Value):Cal P (Builtin.pieces ln c a x):=by
 unfold Builtin.pieces;exact caL
instance (t:TypeId) (x:Place):Cal P (Place.get t x):=by
 unfold Place.get;exact caL
theorem Pi  : ∀ (m:List FieldStep) (t:TypeId) (x:Place),Cal P (follow m t x)
 | [],t,x=>by
  unfold follow;exact caL
 | x0::m,t,x=>by
  have ih:∀ (t:TypeId) (x:Place),Cal P (follow m t x):=Pi m;unfold follow;exact caL
instance (m:List FieldStep) (t:TypeId) (x:Place):Cal P (follow m t x):=Pi m t x
instance (t:TypeId) (x:Place) (p:Bool) (w:Option String):Cal P (receiverAt t x p w):=by
 unfold receiverAt;exact caL
instance (t:TypeId) (v:Value) (p:Array FieldStep) (b:Bool):Cal P (receiverVia t v p b):=by
 unfold receiverVia;exact caL
theorem Ph  : ∀ (m:Nat) (t:TypeId) (v:Value) (n:String),Cal P (method m t v n)
 | 0,t,v,n=>by
  unfold method;exact caL
 | m+1,t,v,n=>by
  have ih:∀ (t:TypeId) (v:Value) (n:String),Cal P (method m t v n):=Ph m;unfold method;exact caL
instance (m:Nat) (t:TypeId) (v:Value) (n:String):Cal P (method m t v n):=Ph m t v n
theorem Ja  : ∀ (m:List FieldStep) (t:TypeId) (x:Option Value),Cal P (followBlind m t x)
 | [],t,x=>by
  unfold followBlind;exact caL
 | x0::m,t,x=>by
  have ih:∀ (t:TypeId) (x:Option Value),Cal P (followBlind m t x):=Ja m;unfold followBlind;exact caL
instance (m:List FieldStep) (t:TypeId) (x:Option Value):Cal P (followBlind m t x):=Ja m t x
theorem MN  : ∀ (m:Nat) (t:TypeId) (v:Value) (n:String),Cal P (nilAhead m t v n)
 | 0,t,v,n=>by
  unfold nilAhead;exact caL
 | m+1,t,v,n=>by
  have ih:∀ (t:TypeId) (v:Value) (n:String),Cal P (nilAhead m t v n):=MN m;unfold nilAhead;exact caL
instance (m:Nat) (t:TypeId) (v:Value) (n:String):Cal P (nilAhead m t v n):=MN m t v n
instance (t:TypeId) (x:Value) (y:Value):Cal P (movedNumber t x y):=by
 unfold movedNumber;exact caL
instance (t:TypeId) (x:Value) (y:Value):Cal P (movedPointer t x y):=by
 unfold movedPointer;exact caL
instance (op:BinOp) (t:TypeId) (x:Operand) (y:Operand) (a:Value) (b:Value):Cal P (eqGuard op t x y a b):=by
 unfold eqGuard;exact caL
instance (op:BinOp) (t:TypeId) (x:Value) (y:Value):Cal P (binOp op t x y):=by
 unfold binOp;exact caL
instance (a:TypeId) (b:TypeId) (x:Value):Cal P (convert a b x):=by
 unfold convert;exact caL
instance (f:Value) (a:Array Value):Cal P (Deferred.ofValue f a):=by
 unfold Deferred.ofValue;exact caL
instance (r:Operand→Value) (c:Call) (t:TypeId):Cal P (resolve r c t):=by
 unfold resolve;exact caL
instance (fn:Func) (t:Array Value):Cal P (results fn t):=by
 unfold results;exact caL
end
end
section
open Go Go.Conc
def Gx:String := "runtime.print$piece"
def EF:Next→Prop
 | .value _ | .skip | .enter _ _ | .round _ _ _ _ _ | .defer _ | .recover | .spawn _ | .comm _ _ _ | .coroswitch _ true=>True
 | .row r _=>r=Gx
 | _=>False
structure EK (P:Program):Prop where
 name:∀ (f:FuncId) (fn:Func),P.funcs[f]?=some fn→(fn.name == "runtime.NumGoroutine")=false
 next:∀ (f:FuncId) (fn:Func),P.funcs[f]?=some fn→fn.body.isNone=true→Extern.findNext fn=none
 find:∀ (f:FuncId) (fn:Func) (e:Array Value→Sem Value),P.funcs[f]?=some fn→fn.body.isNone=true→Extern.find fn=some e→∀ args,Cal P (e args)
section
variable {P:Program}
theorem Yb (s:Sem Value) [h:Cal P s]:calm P EF (do pure (.value (← s)):Sem Next) 0:=EH h.out fun _ _=>⟨rfl,trivial⟩
theorem AbB (s:Sem Unit) [h:Cal P s]:calm P EF (do s;pure .skip:Sem Next) 0:=EH h.out fun _ _=>⟨rfl,trivial⟩
theorem BN {α:Type}(s:Sem α) (f:α→Sem Next) [h:Cal P s] (hf:∀ a,calm P EF (f a) 0):calm P EF (s >>= f) 0:=EH h.out fun a _=>hf a
theorem Yc (h:Halt):calm P EF (.halt h:Sem Next) 0:=.inl rfl
theorem Jr {α:Type}{K:α→Prop}(e:RuntimeError):calm P K (runtimePanic e:Sem α) 0:=by
 unfold runtimePanic;refine EH (K:=fun _=>True) ⟨rfl,trivial⟩ (fun p _=>?_)
 cases e<;>dsimp only<;>first
  | exact .inl rfl
  | exact EH (Cal.out (P:=P)) fun _ _=>EH (Cal.out (P:=P)) fun _ _ => .inl rfl
theorem RD (fd:Nat) (b:ByteArray):Cal P (writeFd fd b):=by
 refine⟨fun r=>?_,.inr ⟨_,rfl,fun g e=>by cases e⟩⟩
 cases r<;>first|exact⟨rfl,trivial⟩|exact .inl rfl
theorem Pj (a b:Array TypeId) (args:Array Value):calm P EF (Extern.PrintPieces.piece a b args) 0:=by
 unfold Extern.PrintPieces.piece
 cases h0:args[0]? with
 | none=>exact .inl rfl
 | some v0 =>
  cases v0<;>first|exact .inl rfl|skip
  rename_i first
  cases h1:args[1]? with
  | none=>exact .inl rfl
  | some v1 =>
   cases v1<;>first|exact .inl rfl|skip
   rename_i p
   have tail:∀ (l:Bool),calm P EF (do
     writeFd 2 p
     if !l then return .row "runtime.print$piece" (#[.bool false]++args.extract 2 args.size)
     if !first then
      mark .disable
      store (printLock (← program)) (.bool false) .atomic
      mark .enable
     pure (.value (.tuple #[])):Sem Next) 0:=by
    intro l;refine EH (RD (P:=P) 2 p).out (fun _ _=>?_)
    cases l<;>cases first
    ·exact⟨rfl,rfl⟩
    ·exact⟨rfl,rfl⟩
    ·simp[calm,bind,Sem.bind,mark,store,program,pure,EF]
    ·exact⟨rfl,trivial⟩
   by_cases hp:p.size > 65536
   ·simp only[hp,if_true];exact .inl rfl
   ·simp only[hp,if_false]
    cases first
    ·exact tail _
    ·simp only[if_true];refine fun v=>?_
     cases v<;>first|exact .inr trivial|skip
     rename_i q
     cases q
     ·by_cases hl:args.size=2
      ·have:=tail (args.size == 2);simp[hl]at this ⊢;exact this
      ·have:=tail (args.size == 2);simp[hl]at this ⊢;exact this
     ·exact .inr trivial
theorem TU (ln:Bool) (c:Array Bool) (t:Array TypeId) (x:Array Value):calm P EF (Builtin.printMarked ln c t x) 0:=by
 unfold Builtin.printMarked;refine BN _ _ (fun ps=>?_)
 split
 ·exact⟨rfl,trivial⟩
 ·exact Pj _ _ _
theorem RG (b:Builtin) (t:Array TypeId) (ty:TypeId) (c:Array Bool) (x:Array Value):calm P EF (builtin b t ty c x) 0:=by
 cases b<;>first|exact Yb _|exact TU _ _ _ _|exact⟨rfl,trivial⟩|exact Yc _|exact BN _ _ fun _=>⟨rfl,trivial⟩
theorem Iy (hP:EK P) (f:FuncId) (args:Array Value):calm P EF (callFunc f args) 0:=by
 show calm P EF (match P.funcs[f]? with|none=>_|some fn=>_:Sem Next) 0
 cases hf:P.funcs[f]? with
 | none=>exact .inl rfl
 | some fn =>
  simp only[hP.name f fn hf,Bool.false_eq_true,if_false]
  split
  ·rename_i hb
   rw[hP.next f fn hf hb]
   cases he:Extern.find fn with
   | none =>
    dsimp only
    refine BN _ _ (fun _=>?_)
    split
    ·exact⟨rfl,trivial⟩
    ·exact .inl rfl
   | some e =>
    have:=hP.find f fn e hf hb he args;exact BN _ _ (fun _=>Yb _)
  ·exact⟨rfl,trivial⟩
theorem Jb (hP:EK P) (v:Value) (n:String) (args:Array Value):calm P EF (callMethod v n args) 0:=by
 unfold callMethod
 split
 ·refine BN _ _ (fun p=>BN _ _ (fun x=>?_));obtain⟨f,r⟩:=x;exact Iy hP _ _
 ·exact Jr _
 ·exact .inl rfl
theorem VX (l:Nat) (x:Array Value):calm P EF (Instr.yield l x) 0:=by
 unfold Instr.yield;refine BN _ _ (fun r=>?_)
 dsimp only
 split
 ·exact .inl rfl
 ·exact⟨rfl,trivial⟩
theorem Iw (hP:EK P) (t:Target) (args:Array Value):calm P EF (invoke t args) 0:=by
 unfold invoke
 split
 ·exact Jr _
 ·exact RG _ _ _ _ _
 ·exact Iy hP _ _
 ·split
  ·exact Jb hP _ _ _
  ·exact .inl rfl
 ·split
  ·refine BN _ _ (fun u=>?_);exact Jb hP _ _ _
  ·exact .inl rfl
 ·split
  ·exact BN _ _ (fun u=>Iy hP _ _)
  ·exact .inl rfl
 ·exact VX _ _
 ·exact .inl rfl
 ·exact⟨rfl,trivial⟩
theorem TV (hP:EK P) (ρ:Operand→Value) (o:Oper):calm P EF (execOp ρ o) 0:=by
 unfold execOp
 dsimp only
 split
 all_goals first
  | exact⟨rfl,trivial⟩
  | exact Yb _
  | exact AbB _
  | exact BN _ _ (fun d=>Iw hP _ _)
  | exact BN _ _ (fun d=>⟨rfl,trivial⟩)
  | skip
 ·split
  all_goals first
   | exact Jr _
   | exact⟨rfl,trivial⟩
   | skip
  split
  ·exact Jr _
  ·refine BN _ _ (fun p=>BN _ _ (fun x=>?_))
   split
   ·exact .inl rfl
   ·exact⟨rfl,trivial⟩
  ·exact⟨rfl,trivial⟩
 ·refine BN _ _ (fun x=>?_)
  split
  ·exact BN _ _ (fun z=>⟨rfl,trivial⟩)
  ·exact .inl rfl
end
end
end Go.Proofs.Ytgdobbcjkiapkaa
