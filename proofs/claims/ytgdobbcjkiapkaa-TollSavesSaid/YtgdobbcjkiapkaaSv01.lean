import Derived.WalkKit
import Derived.Handy
import Derived.Lib.Hide
import Derived.Deep.QuietTactic
import Derived.BigQuiet
import Derived.StillTailTactics
import Derived.Deep.RegionHeld3
import Derived.Deep.RegionWith
import Derived.Deep.Cut
import Derived.Deep.DeepCutAuto
import Derived.Deep.LoopGhost
import Derived.BigRegion
import Derived.Deep.DeepFit
import Derived.Laws.EntriesVeiled
import Derived.WalkLawsBesides
import Derived.Test.YtgdobbcjkiapkaaProg
namespace Go.Proofs.Ytgdobbcjkiapkaa
set_option maxRecDepth 100000
set_option maxHeartbeats 4000000
set_option linter.unusedSimpArgs false
set_option linter.unusedVariables false
section
open Go.RowKit
theorem BX {k:IntKind}{a b:Int}(h:a=b):Ending.returned (.int k a)=.returned (.int k b):=by rw[h]
theorem Ik {a b:Bool}(h:a=b):Ending.returned (.bool a)=.returned (.bool b):=by rw[h]
theorem Ef {W w1:World}(hb:Below W.heap.size W w1):(∀ b o,b<W.heap.size→w1.cell? ⟨b,o,none⟩=W.cell? ⟨b,o,none⟩)∧(∀ b o,b<W.heap.size→w1.frozen? ⟨b,o,none⟩=W.frozen? ⟨b,o,none⟩) :=
  ⟨fun b o h=>hb.cell (p:=⟨b,o,none⟩) h,fun b o h=>hb.frozen (p:=⟨b,o,none⟩) h⟩
theorem below_drewN {B:Nat}{w w':World}(h:Below B w w') (n:Nat):Below B w (w'.drewN n):=h.trans (by induction n with
  | zero=>exact Below.refl _ _
  | succ n ih=>exact ih.drew)
structure Strip where
  A:Int
  B:Int
  L:Int
  W:Int
  K:Int
  X:Int
  Y:Int
  deriving DecidableEq
def Strip.val (s:Strip):Value:=.agg #[.int .i64 s.A,.int .i64 s.B,.int .i64 s.L,.int .i64 s.W,.int .i64 s.K,.int .i64 s.X,.int .i64 s.Y]
structure Ew where
  days:Int
  stages:Int
  strips:List Strip
  deriving DecidableEq
structure Flock where
  heads:Int
  pace:Int
  deriving DecidableEq
def btw (n lo hi:Int):Bool:=decide (lo≤n) && decide (n≤hi)
theorem Am {n lo hi:Int}:btw n lo hi=true↔lo≤n∧n≤hi:=by simp[btw]
def Q7 (n:Int):Int:=if n≤10 then 25 else if n≤25 then 45 else 90
def Fe (s:Strip) (days:Int):Bool :=
  if s.K=1 then (s.X == 0 && s.Y == 0)
  else if s.K=2 then btw s.X 0 (days-1) && btw s.Y s.X (days-1)
  else if s.K=3 then btw s.X 0 20 && btw s.Y (-5) 5
  else btw s.X 1 40 && s.Y == 0
def Ff (s:Strip) (days:Int):Int :=
  if s.K=1∨s.K=2∨s.K=3∨s.K=4 then (if Fe s days then 0 else 1) else 8
def BL (s:Strip) (days stages:Int):Int :=
  if !(btw s.A 0 (stages-1)) || !(btw s.B 0 (stages-1)) then 3
  else if s.A == s.B then 4
  else if !(btw s.L 1 9) || !(btw s.W 1 99) then 1
  else Ff s days
def Bq (days stages:Int):List Strip→Int
  | []=>0
  | s::l=>if BL s days stages == 0 then Bq days stages l else BL s days stages
def Bo (r:Ew):Int :=
  if !(btw r.days 1 10) || !(btw r.stages 1 6) then 1
  else if 8<r.strips.length then 6
  else Bq r.days r.stages r.strips
def Fg (f:Flock):Int:=if !(btw f.heads 1 40) || !(btw f.pace 1 9) then 1 else 0
end
section
open Go.RowKit
structure FK (w:World) (b o:Nat) (s:Strip):Prop where
  c0:w.cell? ⟨b,o,none⟩=some (.int .i64 s.A)
  c1:w.cell? ⟨b,o+1,none⟩=some (.int .i64 s.B)
  c2:w.cell? ⟨b,o+2,none⟩=some (.int .i64 s.L)
  c3:w.cell? ⟨b,o+3,none⟩=some (.int .i64 s.W)
  c4:w.cell? ⟨b,o+4,none⟩=some (.int .i64 s.K)
  c5:w.cell? ⟨b,o+5,none⟩=some (.int .i64 s.X)
  c6:w.cell? ⟨b,o+6,none⟩=some (.int .i64 s.Y)
theorem FK.keep {w w':World}{b o:Nat}{s:Strip}(h:FK w b o s) (e:∀ k,w'.cell? ⟨b,k,none⟩=w.cell? ⟨b,k,none⟩):FK w' b o s :=
  ⟨(e _).trans h.c0,(e _).trans h.c1,(e _).trans h.c2,(e _).trans h.c3,(e _).trans h.c4,(e _).trans h.c5,(e _).trans h.c6⟩
def DN (w:World) (a:Option Addr) (l:List Strip):Prop :=
  l=[]∨∃ b o,a=some ⟨b,o,none⟩∧∀ (i:Nat) (h:i<l.length),FK w b (o+i*7) l[i]
theorem lt_of_cell {w:World}{b o:Nat}{v:Value}(h:w.cell? ⟨b,o,none⟩=some v):b<w.heap.size:=World.block_lt_of_cell? _ _ h
theorem DN.below {w w':World}{a:Option Addr}{l:List Strip}(h:DN w a l) (hb:Below w.heap.size w w'):DN w' a l:=by
  rcases h with h|⟨b,o,ha,h⟩
  · exact .inl h
  · exact .inr ⟨b,o,ha,fun i hi=>(h i hi).keep fun k=>(Ef hb).1 _ _ (lt_of_cell (h i hi).c0)⟩
def AX (w:World) (a:Option Addr) (l:List Int):Prop :=
  l=[]∨∃ b o,a=some ⟨b,o,none⟩∧∀ (i:Nat) (h:i<l.length),w.cell? ⟨b,o+i,none⟩=some (.int .i64 l[i])
theorem AX.below {w w':World}{a:Option Addr}{l:List Int}(h:AX w a l) (hb:Below w.heap.size w w'):AX w' a l:=by
  rcases h with h|⟨b,o,ha,h⟩
  · exact .inl h
  · exact .inr ⟨b,o,ha,fun i hi=>by rw[(Ef hb).1 _ _ (lt_of_cell (h i hi))];exact h i hi⟩
end
section
open Go.RowKit
theorem Cb (n lo hi:Int) (w:World) :
    Calls Try.prog 111 #[.int .i64 n,.int .i64 lo,.int .i64 hi] w fun e w'=>e=.returned (.bool (btw n lo hi))∧w=w':=by
  by_cases h:lo≤n
  · go_enter Try.func111,Try.ntmps111
    go_wp2
    go_ret
    exact⟨by simp[h,btw],rfl⟩
  · go_enter Try.func111,Try.ntmps111
    go_wp2
    go_ret
    exact⟨by simp[btw];omega,rfl⟩
theorem Xz (n:Int) (w:World) :
    Calls Try.prog 132 #[.int .i64 n] w fun e w'=>e=.returned (.int .i64 (Q7 n))∧w=w':=by
  by_cases h:n≤10
  · go_enter Try.func132,Try.ntmps132
    go_wp2
    go_ret
    exact⟨BX (by simp[Q7,h]),rfl⟩
  · by_cases h':n≤25
    · go_enter Try.func132,Try.ntmps132
      go_wp2
      go_ret
      exact⟨BX (by rw[Q7,if_neg (by omega),if_pos h']),rfl⟩
    · go_enter Try.func132,Try.ntmps132
      go_wp2
      go_ret
      exact⟨BX (by rw[Q7,if_neg (by omega),if_neg (by omega)]),rfl⟩
theorem P9 (A B L W K X Y days:Int) (w:World) (h1:1≤days) (h2:days≤10) :
    Calls Try.prog 112 #[.agg #[.int .i64 A,.int .i64 B,.int .i64 L,.int .i64 W,.int .i64 K,.int .i64 X,.int .i64 Y],.int .i64 days] w
      fun e w'=>e=.returned (.int .i64 (Ff ⟨A,B,L,W,K,X,Y⟩ days))∧Below w.heap.size w w':=by
  by_cases k1:K=1
  · subst k1
    go_enter Try.func112,Try.ntmps112
    go_wp2_with (go_at_call 111;refine(Cb _ _ _ _).mono ?_;rintro e w' ⟨rfl,rfl⟩)
    all_goals go_ret
    all_goals exact⟨BX (by simp_all [Ff,Fe]),by go_grown⟩
  · by_cases k2:K=2
    · subst k2
      go_enter Try.func112,Try.ntmps112
      go_wp2_with (go_at_call 111;refine(Cb _ _ _ _).mono ?_;rintro e w' ⟨rfl,rfl⟩)
      all_goals go_ret
      all_goals exact⟨BX (by simp_all [Ff,Fe]),by go_grown⟩
    · by_cases k3:K=3
      · subst k3
        go_enter Try.func112,Try.ntmps112
        go_wp2_with (go_at_call 111;refine(Cb _ _ _ _).mono ?_;rintro e w' ⟨rfl,rfl⟩)
        all_goals go_ret
        all_goals exact⟨BX (by simp_all [Ff,Fe]),by go_grown⟩
      · by_cases k4:K=4
        · subst k4
          go_enter Try.func112,Try.ntmps112
          go_wp2_with (go_at_call 111;refine(Cb _ _ _ _).mono ?_;rintro e w' ⟨rfl,rfl⟩)
          all_goals go_ret
          all_goals exact⟨BX (by simp_all [Ff,Fe]),by go_grown⟩
        · go_enter Try.func112,Try.ntmps112
          go_wp2_with (go_at_call 111;refine(Cb _ _ _ _).mono ?_;rintro e w' ⟨rfl,rfl⟩)
          all_goals go_ret
          all_goals exact⟨BX (by simp_all [Ff]),by go_grown⟩
theorem OD (H P:Int) (w:World) :
    Calls Try.prog 119 #[.agg #[.int .i64 H,.int .i64 P]] w
      fun e w'=>e=.returned (.int .i64 (Fg ⟨H,P⟩))∧Below w.heap.size w w':=by
  go_enter Try.func119,Try.ntmps119
  go_wp2_with (go_at_call 111;refine(Cb _ _ _ _).mono ?_;rintro e w' ⟨rfl,rfl⟩)
  all_goals go_ret
  all_goals exact⟨BX (by simp_all [Fg]),by go_grown⟩
end
section
open Go.RowKit
theorem JB {D S:Int}{l:List Strip}{k:Nat}(h:k<l.length) :
    Bq D S (l.drop k)=if BL l[k] D S == 0 then Bq D S (l.drop (k+1)) else BL l[k] D S:=by
  rw[List.drop_eq_getElem_cons h];rfl
theorem chk_end {D S:Int}{l:List Strip}{k:Nat}{s:Strip}{x:Int}(h:k<l.length) (hE:Bq D S (l.drop k)=Bq D S l) (hg:l[k]=s)
    (h0:BL s D S=x) (h1:x≠0):Bq D S l=x:=by
  rw[← hE,JB h,hg,h0,if_neg (by simpa using h1)]
theorem UA {D S:Int}{l:List Strip}{k:Nat}{s:Strip}(h:k<l.length) (hE:Bq D S (l.drop k)=Bq D S l) (hg:l[k]=s)
    (h0:BL s D S=0):Bq D S (l.drop (k+1))=Bq D S l:=by
  rw[← hE,JB h,hg,h0];rfl
set_option maxHeartbeats 2000000 in
theorem check_any (D S:Int) (l:List Strip) (a:Option Addr) (cap:Nat) (w:World) (hl:DN w a l) (hm:l.length≤maxLen) :
    Calls Try.prog 85 #[.agg #[.int .i64 D,.int .i64 S,.slice a l.length cap]] w
      fun e w'=>e=.returned (.int .i64 (Bo ⟨D,S,l⟩))∧Below w.heap.size w w':=by
  unfold maxLen at hm
  by_cases hd:btw D 1 10=true
  · by_cases hs:btw S 1 6=true
    · by_cases h8:8<l.length
      · go_enter Try.func85,Try.ntmps85
        go_wp2_with (go_at_call 111;refine(Cb _ _ _ _).mono ?_;rintro e w' ⟨rfl,rfl⟩)
        all_goals go_ret
        all_goals exact⟨BX (by simp[Bo,hd,hs,h8]),by go_grown⟩
      · obtain⟨hs1,hs2⟩:=Am.1 hs
        obtain⟨hd1,hd2⟩:=Am.1 hd
        have hR:Bo ⟨D,S,l⟩=Bq D S l:=by simp[Bo,hd,hs,h8]
        have HR:=Lib.hid hR;clear hR
        go_enter Try.func85,Try.ntmps85
        go_wp2_with (go_at_call 111;refine(Cb _ _ _ _).mono ?_;rintro e w' ⟨rfl,rfl⟩)
        go_loopw [23] (fun v wr=>∃ k:Nat,k≤l.length∧v=.int .i64 k∧Bq D S (l.drop k)=Bq D S l∧Below (w.heap.size+1) (w.alloc (.cells #[.int .i64 D,.int .i64 S,.slice a l.length cap] 24)) wr) (fun v _=>l.length-(intOf v).toNat)
        case atStart=>exact⟨0,Nat.zero_le _,rfl,rfl,Below.refl _ _⟩
        case round =>
          obtain⟨k,hk,rfl,hE,hb⟩:=hrel
          have HE:=Lib.hid hE;clear hE
          have hb':=hb
          obtain⟨hc,hf⟩:=Ef (W:=w.alloc (.cells #[.int .i64 D,.int .i64 S,.slice a l.length cap] 24)) (by simpa using hb)
          have b0:wr.cell? ⟨w.heap.size,0,none⟩=some (.int .i64 D):=by rw[hc _ _ (by simp)];simp
          have b1:wr.cell? ⟨w.heap.size,1,none⟩=some (.int .i64 S):=by rw[hc _ _ (by simp)];simp
          have hz:w.heap.size<wr.heap.size:=by have:=hb.size;simp at this;omega
          by_cases hlt:k<l.length
          · rcases hl with rfl|⟨b,o,rfl,hl⟩
            · simp at hlt
            · have hst:=hl k hlt
              have hst':FK wr b (o+k*7) l[k]:=hst.keep fun j=>by rw[hc _ _ (by simp;have:=lt_of_cell hst.c0;omega)];exact World.cell?_alloc_past _ _ _ (lt_of_cell hst.c0)
              obtain⟨s0,s1,s2,s3,s4,s5,s6⟩:=hst'
              clear hc hf hst hl hb
              generalize hg:l[k]=s at s0 s1 s2 s3 s4 s5 s6
              go_wp2_with (first|(go_at_call 111;refine(Cb _ _ _ _).mono ?_;rintro e w' ⟨rfl,rfl⟩)|(go_at_call 112;refine(P9 _ _ _ _ _ _ _ _ _ hd1 hd2).mono ?_;rintro e w2 ⟨rfl,hb2⟩))
              case roundEnd=>exact⟨⟨k+1,by omega,by go_num,UA hlt HE.out hg (by simp_all [BL]),hb'.trans ((Below.alloc (Below.refl _ _) (by omega) _).trans (hb2.mono (by simp;omega)))⟩,by simp[intOf];omega⟩
              all_goals go_ret
              all_goals refine⟨BX ?_,?_⟩
              all_goals first
                | (refine Below.trans (Below.alloc (Below.refl _ _) (Nat.le_refl _) _) ((Below.mono hb' (by omega)).trans ?_)
                   first|exact(Below.alloc (Below.refl _ _) (by omega) _)|exact(Below.alloc (Below.refl _ _) (by omega) _).trans (hb2.mono (by simp;omega)))
                | (rw[HR.out];refine(chk_end hlt HE.out hg ?_ ?_).symm)
              all_goals clear b0 b1 s0 s1 s2 s3 s4 s5 s6
              all_goals simp_all [BL]
          · go_wp2
            go_ret
            refine⟨BX ?_,Below.trans (Below.alloc (Below.refl _ _) (Nat.le_refl _) _) (Below.mono hb' (by omega))⟩
            rw[HR.out,← HE.out,List.drop_of_length_le (by omega)];rfl
    · go_enter Try.func85,Try.ntmps85
      go_wp2_with (go_at_call 111;refine(Cb _ _ _ _).mono ?_;rintro e w' ⟨rfl,rfl⟩)
      all_goals go_ret
      all_goals exact⟨BX (by simp_all [Bo]),by go_grown⟩
  · go_enter Try.func85,Try.ntmps85
    go_wp2_with (go_at_call 111;refine(Cb _ _ _ _).mono ?_;rintro e w' ⟨rfl,rfl⟩)
    all_goals go_ret
    all_goals exact⟨BX (by simp_all [Bo]),by go_grown⟩
end
section
open Go.RowKit
def CG (w:World) (B:Nat) (v:Value) (l:List Int):Prop:=w.ownsRow B 3 1 v l.length (l.map (Value.int .i64))
theorem CG.nil (w:World) (B:Nat):CG w B (.slice none 0 0) []:=World.ownsRow_nil _ _ _ _
theorem CG.below {w w':World}{B:Nat}{v:Value}{l:List Int}(h:CG w B v l) (hb:Below w.heap.size w w'):CG w' B v l:=by
  obtain⟨h1,h2⟩:=h
  refine⟨h1,?_⟩
  rcases h2 with h2|⟨g,cap,cur,hv,hg,hh,r⟩
  · exact .inl h2
  · exact .inr ⟨g,cap,cur,hv,hg,by rw[hb.block g (Array.getElem?_eq_some_iff.1 hh).1];exact hh,r⟩
theorem CG.alloc {w:World}{B:Nat}{v:Value}{l:List Int}(h:CG w B v l) (o:Obj):CG (w.alloc o) B v l :=
  h.below (Below.alloc (Below.refl _ _) (Nat.le_refl _) o)
theorem CG.mono {w:World}{B B':Nat}{v:Value}{l:List Int}(h:CG w B v l) (hB:B'≤B):CG w B' v l:=by
  obtain⟨h1,h2⟩:=h
  refine⟨h1,?_⟩
  rcases h2 with h2|⟨g,cap,cur,hv,hg,r⟩
  · exact .inl h2
  · exact .inr ⟨g,cap,cur,hv,Nat.le_trans hB hg,r⟩
theorem CG.ints {w:World}{B:Nat}{v:Value}{l:List Int}(h:CG w B v l) :
    ∃ a cap,v=.slice a l.length cap∧AX w a l∧l.length≤cap∧cap≤maxLen:=by
  obtain⟨h1,h2⟩:=h
  rcases h2 with ⟨hv,hn⟩|⟨g,cap,cur,hv,hg,hh,hc,hm,hs,ht⟩
  · have:l=[]:=List.length_eq_zero_iff.1 hn
    subst this
    exact⟨none,0,hv,.inl rfl,Nat.le_refl _,by unfold maxLen;omega⟩
  · refine⟨_,cap,hv,.inr ⟨g,0,rfl,fun i hi=>?_⟩,hc,hm⟩
    have e:cur[i]?=some (.int .i64 l[i]):=by
      rw[← Array.getElem?_toList]
      have:(cur.toList.take (l.length*1))[i]?=cur.toList[i]?:=by rw[List.getElem?_take,if_pos (by omega)]
      rw[← this,ht]
      simp[hi]
    simp[World.cell?,hh,e]
theorem Aa0 {ops:Array Oper}{rest:List Oper}{o:Oper}{a:Act}{Q:Exit→Act→World→Prop}{w:World}(hgd:o.guard=none) (s x:Operand)
    (ho:o.op=.call { callee:=.builtin .append,args:=#[s,x],argTypes:=#[29,29] })
    (B:Nat) (v:Value) (l:List Int) (hs:a.eval s=v) (hown:CG w B v l) (n:Int) (b:Nat) (hx:a.eval x=.slice (some ⟨b,0,none⟩) 1 1)
    (hc:w.cell? ⟨b,0,none⟩=some (.int .i64 n)) (hlen:l.length≤1000000) (hB:B≤w.heap.size)
    (h:∀ v' w',CG w' B v' (l++[n])→Below B w w'→w.grownBy w' v.ownBlock→wpList Try.prog ops Q rest (a.put o.dst v') w'):wpList Try.prog ops Q (o::rest) a w:=by
  obtain⟨i0,hi,hz0,hz1,hz2⟩:=info_parts (P:=Try.prog) (e:=3) (z:=.int .i64 0) (size:=1) (bytes:=8) (by kernel_rfl)
  refine wpList_append_own w hgd s x 29 ho B 3 i0 (.int .i64 0) 1 8 Try.underlying29 hi hz0 hz1 hz2 rfl (by decide) v l.length _ hs hown ⟨b,0,none⟩ 1 1 [.int .i64 n] hx rfl ?_ ?_ ?_ ?_ hB ?_
  · intro j u hj
    match j,hj with
    | 0,hj=>simp at hj;subst hj;simpa[Addr.add] using hc
  · intro u hu;simp at hu;subst hu;rfl
  · unfold maxLen;omega
  · omega
  · intro v' w' h1 h2 _
    refine h v' w' ?_ ?_ h2
    · unfold CG;simpa using h1
    · refine Below.grown (Below.refl _ _) h2 hB fun k hk=>?_
      obtain⟨_,h3⟩:=hown
      rcases h3 with ⟨hv,_⟩|⟨g,cap,cur,hv,hg,_⟩
      · subst hv;simp[Value.ownBlock]at hk
      · subst hv;simp[Value.ownBlock]at hk;omega
theorem Js {ops:Array Oper}{rest:List Oper}{o:Oper}{a:Act}{Q:Exit→Act→World→Prop}{w:World}(hgd:o.guard=none) (s x:Operand)
    (ho:o.op=.call { callee:=.builtin .append,args:=#[s,x],argTypes:=#[29,29] })
    (B:Nat) (v:Value) (l:List Int) (hs:a.eval s=v) (hown:CG w B v l) (n:Int) (hx:a.eval x=.slice (some ⟨w.heap.size,0,none⟩) 1 1)
    (hlen:l.length≤1000000) (hB:B≤w.heap.size)
    (h:∀ v' w',CG w' B v' (l++[n])→Below B w w'→(w.alloc (.cells #[.int .i64 n] 3)).grownBy w' v.ownBlock→wpList Try.prog ops Q rest (a.put o.dst v') w') :
    wpList Try.prog ops Q (o::rest) a (w.alloc (.cells #[.int .i64 n] 3)) :=
  Aa0 hgd s x ho B v l hs (hown.alloc _) n w.heap.size hx (by simp) hlen (by simp;omega) fun v' w' h1 h2 h3=>h v' w' h1 ((Below.alloc (Below.refl _ _) hB _).trans h2) h3
end
section
open Go.RowKit
def BC {α:Type}(L:Nat→α) (i:Nat) (v:α):Nat→α:=fun k=>if k=i then v else L k
theorem Ez {α:Type}(L:Nat→α) (i:Nat) (v:α):BC L i v i=v:=by simp[BC]
theorem Ap {α:Type}(L:Nat→α) {i k:Nat}(v:α) (h:k≠i):BC L i v k=L k:=by simp[BC,h]
def Dh (listed:Array Bool):Nat→Bool:=fun k=>listed.getD k false
def BP (o:Oper) (L:Nat→Bool):Bool:=o.after.all fun e => !Region.binds .any e || L e.on
theorem KR {listed:Array Bool}{i:Nat}(hi:i<listed.size):Dh (listed.setIfInBounds i true)=BC (Dh listed) i true:=by
 funext k
 unfold Dh BC
 by_cases e:k=i
 ·subst e;simp[Array.getD_eq_getD_getElem?,hi]
 ·rw[if_neg e];simp only[Array.getD_eq_getD_getElem?];rw[Array.getElem?_setIfInBounds_ne (by omega)]
theorem mem_ready {ops:Array Oper}{listed:Array Bool}(hsz:listed.size=ops.size) {i:Nat}(h:i∈Region.ready .any ops listed):∃ o,ops[i]?=some o∧i<ops.size∧Dh listed i=false∧BP o (Dh listed)=true:=by
 unfold Region.ready at h;rw[List.mem_filter,List.mem_range,Bool.and_eq_true]at h;obtain⟨h1,h2,h3⟩:=h;have ho:ops[i]?=some ops[i]:=Array.getElem?_eq_getElem h1;refine⟨ops[i],ho,h1,?_,?_⟩
 ·have e:listed.getD i true=listed.getD i false:=by simp[Array.getD_eq_getD_getElem?,hsz,h1]
  rw[e]at h2
  simpa[Dh] using h2
 ·rw[ho]at h3
  simpa[BP,Dh] using h3
def OB (n:Nat) (listed:Array Bool):Nat:=((List.range n).filter fun i => !listed.getD i true).length
theorem KJ {listed:Array Bool}{i:Nat}(hi:i<listed.size) (hl:listed.getD i true=false):∀ n,((List.range n).filter fun j => !(listed.setIfInBounds i true).getD j true).length+(if i<n then 1 else 0)=((List.range n).filter fun j => !listed.getD j true).length
 | 0=>by simp
 | n+1=>by
  have ih:=KJ hi hl n;rw[List.range_succ,List.filter_append,List.filter_append,List.length_append,List.length_append]
  by_cases e:i=n
  ·subst e;rw[if_neg (by omega)]at ih;rw[if_pos (by omega)];have h1:(listed.setIfInBounds i true).getD i true=true:=by simp[Array.getD_eq_getD_getElem?,hi]
   simp only[List.filter_cons,List.filter_nil,h1,hl];simp at ih ⊢;omega
  ·have h1:(listed.setIfInBounds i true).getD n true=listed.getD n true:=by
    simp only[Array.getD_eq_getD_getElem?];rw[Array.getElem?_setIfInBounds_ne (by omega)]
   have h2:([n].filter fun j => !(listed.setIfInBounds i true).getD j true)=[n].filter fun j => !listed.getD j true:=by simp only[List.filter_cons,List.filter_nil,h1]
   rw[h2]
   by_cases c:i<n
   ·rw[if_pos c]at ih;rw[if_pos (by omega)];omega
   ·rw[if_neg c]at ih;rw[if_neg (by omega)];omega
theorem KF {ops:Array Oper}{listed:Array Bool}(hsz:listed.size=ops.size) {i:Nat}(hi:i∈Region.ready .any ops listed):OB ops.size (listed.setIfInBounds i true)+1=OB ops.size listed:=by
 unfold Region.ready at hi;rw[List.mem_filter,List.mem_range,Bool.and_eq_true]at hi;obtain⟨h1,h2,_⟩:=hi;have:=KJ (listed:=listed) (i:=i) (by omega) (by simpa using h2) ops.size;rw[if_pos h1]at this;exact this
theorem Jm {ops:Array Oper}{listed:Array Bool}(h:OB ops.size listed=0):Region.ready .any ops listed=[]:=by
 unfold OB at h;have h0:=List.length_eq_zero_iff.1 h;unfold Region.ready;rw[List.filter_eq_nil_iff]at h0 ⊢;intro i hi hc;rw[Bool.and_eq_true]at hc;exact h0 i hi hc.1
theorem Io (n:Nat):OB n (Array.replicate n false)=n:=by
 unfold OB;rw[List.filter_eq_self.2]
 ·simp
 ·intro i hi;rw[List.mem_range]at hi;simp[Array.getD_eq_getD_getElem?,hi]
theorem Qr {P:Program}{ops:Array Oper}{Q:Exit→Act→World→Prop}(Inv:(Nat→Bool)→Act→World→Prop)
  (hs:∀ L a w i o,ops[i]?=some o→Inv L a w→L i=false→BP o L=true→wpOp P ops Q i (fun a' w'=>Inv (BC L i true) a' w') a w)
  (he:∀ listed a w,listed.size=ops.size→Inv (Dh listed) a w→Region.ready .any ops listed=[]→Q .normal a w):∀ (n:Nat) (listed:Array Bool) (a:Act) (w:World),listed.size=ops.size→OB ops.size listed≤n→Inv (Dh listed) a w→wpAny P .any ops Q n listed a w
 | 0,listed,a,w,hsz,hn,hI=>by
  have h0:=Jm (ops:=ops) (listed:=listed) (by omega);exact⟨h0,he listed a w hsz hI h0⟩
 | n+1,listed,a,w,hsz,hn,hI=>by
  refine⟨fun h0=>he listed a w hsz hI h0,fun i hi=>?_⟩;obtain⟨o,ho,hlt,h1,h2⟩:=mem_ready hsz hi;refine wpOp_mono ?_ (hs _ a w i o ho hI h1 h2);intro a' w' hI';have hle:=KF hsz hi;exact Qr Inv hs he n _ a' w' (by simpa using hsz) (by omega) (by rw[KR (by omega)];exact hI')
theorem DC {P:Program}{id:Nat}{Q:Exit→Act→World→Prop}{a:Act}{w:World}{ops:Array Oper}(hm:P.follows .mixedOrders=true) (Inv:(Nat→Bool)→Act→World→Prop)
  (h0:Inv (fun _=>false) a w.drew)
  (hs:∀ L a w i o,ops[i]?=some o→Inv L a w→L i=false→BP o L=true→wpOp P ops Q i (fun a' w'=>Inv (BC L i true) a' w') a w)
  (he:∀ L a w,(∀ i o,ops[i]?=some o→BP o L=true→L i=true)→Inv L a w→Q .normal a w):(Code.region id ops true).wp P Q a w:=by
 refine wp_region_any hm (Qr Inv hs ?_ ops.size _ a _ (by simp) (by rw[Io];exact Nat.le_refl _) ?_)
 ·intro listed a w hsz hI hr;refine he _ a w (fun i o ho hre=>?_) hI;have hlt:=(Array.getElem?_eq_some_iff.1 ho).1
  cases hl:Dh listed i
  ·exfalso
   have hm:i∈Region.ready .any ops listed:=by
    unfold Region.ready;rw[List.mem_filter,List.mem_range,Bool.and_eq_true];refine⟨hlt,?_,?_⟩
    ·have e:listed.getD i true=listed.getD i false:=by simp[Array.getD_eq_getD_getElem?,hsz,hlt]
     rw[e];unfold Dh at hl;rw[hl];rfl
    ·rw[ho];simpa[BP,Dh] using hre
   rw[hr]at hm;simp at hm
  ·rfl
 ·have e:Dh (Array.replicate ops.size false)=fun _=>false:=by
   funext k
   unfold Dh
   by_cases h:k<ops.size<;>simp[Array.getD_eq_getD_getElem?,h]
  rw[e];exact h0
theorem Wp {P:Program}{ops:Array Oper}{Q:Exit→Act→World→Prop}{i:Nat}{o:Oper}{K:Act→World→Prop}{a:Act}{w:World}(ho:ops[i]?=some o) (hg:o.guard=none) (h:o.wp P a w K Q):wpOp P ops Q i K a w:=by
 unfold wpOp;rw[ho];simp only[Region.wanted,hg,if_true];exact .inl h
end
section
open Go.RowKit
theorem Fz {P:Program}{ops:Array Oper}{Q:Exit→Act→World→Prop}{i:Nat}{o:Oper}{K:Act→World→Prop}{a:Act}{w:World}(ho:ops[i]?=some o) (hg:o.guard=none) (h:∀ K':Act→World→Prop,(∀ a w,K a w→K' a w)→o.wp P a w K' Q):wpOp P ops Q i K a w :=
 Wp ho hg (h K fun _ _ h=>h)
def waits (o:Oper):List Nat:=(o.after.toList.filter (Region.binds .any)).map (·.on)
theorem CX {o:Oper}{L:Nat→Bool}(h:BP o L=true):∀ d∈waits o,L d=true:=by
 intro d hd;unfold waits at hd;rw[List.mem_map]at hd;obtain⟨e,he,rfl⟩:=hd;rw[List.mem_filter]at he;unfold BP at h;rw[Array.all_eq_true']at h;have:=h e (Array.mem_toList_iff.1 he.1);rw[he.2]at this
 simpa using this
def anc (ops:Array Oper):Nat→(Nat→Bool)→Nat→Bool
 | 0,S=>S
 | t+1,S=>anc ops t fun k=>S k || (List.range ops.size).any fun j=>S j && (match ops[j]? with|some o=>(waits o).contains k|none=>false)
theorem Qk {ops:Array Oper}{L:Nat→Bool}(hc:∀ k o,ops[k]?=some o→L k=true→BP o L=true):∀ (t:Nat) (S:Nat→Bool),(∀ k,S k=true→L k=true)→∀ k,anc ops t S k=true→L k=true
 | 0,_,h=>h
 | t+1,S,h=>by
  refine Qk hc t _ fun k hk=>?_
  rw[Bool.or_eq_true]at hk;rcases hk with hk|hk
  ·exact h k hk
  ·rw[List.any_eq_true]at hk;obtain⟨j,_,hj⟩:=hk;rw[Bool.and_eq_true]at hj;obtain⟨h1,h2⟩:=hj
   cases ho:ops[j]? with
   | none=>rw[ho]at h2;simp at h2
   | some o =>
    rw[ho]at h2;exact CX (hc j o ho (h j h1)) k (by simpa using h2)
def Pq (ops:Array Oper) (m:Nat):Bool:=(List.range ops.size).all (anc ops ops.size (· == m))
def dag (ops:Array Oper):Bool:=(List.range ops.size).all fun k=>match ops[k]? with|some o=>(waits o).all (· < k)|none=>true
theorem Ov {o:Oper}{L:Nat→Bool}(h:∀ d∈waits o,L d=true):BP o L=true:=by
 unfold BP;rw[Array.all_eq_true'];intro e he
 cases hb:Region.binds .any e
 ·rfl
 ·have:=h e.on (by
   unfold waits;rw[List.mem_map];exact⟨e,List.mem_filter.2 ⟨Array.mem_toList_iff.2 he,hb⟩,rfl⟩)
  simpa using this
theorem GY {ops:Array Oper}{L:Nat→Bool}(hd:dag ops=true) (h:∀ i o,ops[i]?=some o→BP o L=true→L i=true) (k:Nat) (hk:k<ops.size):L k=true:=by
 induction k using Nat.strongRecOn with
 | ind k ih =>
  have ho:ops[k]?=some ops[k]:=Array.getElem?_eq_getElem hk;refine h k _ ho (Ov fun d hdw=>?_);have h1:=(List.all_eq_true.1 hd) k (by rw[List.mem_range];exact hk);rw[ho]at h1;have h2:=(List.all_eq_true.1 h1) d hdw;have h3:d<k:=by simpa using h2
  exact ih d h3 (by omega)
theorem DD {o:Oper}{L L':Nat→Bool}(h:∀ k,L k=true→L' k=true) (hr:BP o L=true):BP o L'=true:=by
 unfold BP at *;rw[Array.all_eq_true']at hr ⊢;intro e he;have:=hr e he;rw[Bool.or_eq_true]at this ⊢;exact this.imp id (h _)
end
section
open Go.RowKit
structure Sl (a:Act) (n:Nat) (m:List (Nat×Value)):Prop where
 size:a.tmps.size=n
 defers:a.defers=[]
 get:∀ t v,m.lookup t=some v→a.tmps[t]?=some v
theorem Sl.ev {a:Act}{n:Nat}{m:List (Nat×Value)}(h:Sl a n m) (t:Nat) {v:Value}(hm:m.lookup t=some v):a.eval (.tmp t)=v:=by
 have:=h.get _ _ hm;simp[Act.eval,Array.getD_eq_getD_getElem?,this]
theorem Sl.put {a:Act}{n:Nat}{m:List (Nat×Value)}(h:Sl a n m) (d:Nat) (v:Value) (hd:d<n):Sl (a.put (some d) v) n ((d,v)::m):=by
 refine⟨by simp[Act.put,h.size],h.defers,fun t x hx=>?_⟩;simp only[Act.put];rw[List.lookup_cons]at hx
 by_cases e:t=d
 ·subst e;simp at hx;simp[h.size,hd,hx]
 ·rw[Array.getElem?_setIfInBounds_ne (Ne.symm e)];have e2:(t == d)=false:=by simpa using e
  rw[e2]at hx;exact h.get t x hx
theorem Sl.nil {a:Act}{n:Nat}{m:List (Nat×Value)}(h:Sl a n m):Sl a n []:=⟨h.size,h.defers,fun t v hv=>by simp at hv⟩
theorem Sl.cons {a:Act}{n:Nat}{m:List (Nat×Value)}(h:Sl a n m) {t:Nat}{v:Value}(e:a.tmps[t]?=some v):Sl a n ((t,v)::m):=by
 refine⟨h.size,h.defers,fun s u hu=>?_⟩;rw[List.lookup_cons]at hu
 by_cases c:s=t
 ·subst c;simp at hu;rw[e,hu]
 ·have c2:(s == t)=false:=by simpa using c
  rw[c2]at hu;exact h.get s u hu
def Gv (n:Nat):Code→Option Code
 | .region id ops d=>if id=n then some (.region id ops d) else none
 | .seq a b=>match Gv n a with|some c=>some c|none=>Gv n b
 | .cond _ a b=>match Gv n a with|some c=>some c|none=>Gv n b
 | .block _ a | .loop a | .scope a=>Gv n a
 | .rangeFunc _ _ a b=>match Gv n a with|some c=>some c|none=>Gv n b
 | _=>none
def Ac (f:Func) (n:Nat):Code:=(f.body.bind (Gv n)).getD .skip
theorem BQ {P:Program}{ops:Array Oper}{Q:Exit→Act→World→Prop}{i:Nat}{rest:List Nat}{o:Oper}{a:Act}{w:World}(ho:ops[i]?=some o) (hg:o.guard=none)
  (h:∀ K:Act→World→Prop,(∀ a w,wpOps P ops Q rest a w→K a w)→o.wp P a w K Q):wpOps P ops Q (i::rest) a w:=by
 rw[wpOps,ho];simp only[Region.wanted,hg,if_true];exact .inl (h _ fun _ _ h=>h)
theorem EL {P:Program}{ops:Array Oper}{Q:Exit→Act→World→Prop}{a:Act}{w:World}(h:Q .normal a w):wpOps P ops Q [] a w:=h
theorem PW {P:Program}{ops:Array Oper}{Q:Exit→Act→World→Prop}{i:Nat}{rest:List Nat}{o:Oper}{a:Act}{w:World}{k:Nat}{b:Bool}{ok:Oper}{t:Nat}(ho:ops[i]?=some o) (hg:o.guard=some (k,b)) (hk:ops[k]?=some ok) (ht:ok.dst=some t) (hv:a.tmps[t]?=some (.bool b))
  (h:∀ K:Act→World→Prop,(∀ a w,wpOps P ops Q rest a w→K a w)→o.wp P a w K Q):wpOps P ops Q (i::rest) a w:=by
 rw[wpOps,ho];simp only[Region.wanted,hg,yielded,hk,Option.bind_some,ht,hv,beq_self_eq_true,if_true];exact .inl (h _ fun _ _ h=>h)
theorem Zc {P:Program}{ops:Array Oper}{Q:Exit→Act→World→Prop}{i:Nat}{rest:List Nat}{o:Oper}{a:Act}{w:World}{k:Nat}{b c:Bool}{ok:Oper}{t:Nat}(ho:ops[i]?=some o) (hg:o.guard=some (k,b)) (hk:ops[k]?=some ok) (ht:ok.dst=some t) (hv:a.tmps[t]?=some (.bool c)) (hc:c≠b)
  (h:wpOps P ops Q rest (a.put o.dst undef) w):wpOps P ops Q (i::rest) a w:=by
 rw[wpOps,ho];have hb:(some c == some b)=false:=by simpa using hc
 simp only[Region.wanted,hg,yielded,hk,Option.bind_some,ht,hv,hb,Bool.false_eq_true,if_false];exact h
end
section
open Go.RowKit
def okD (n:Nat) (ms:List Nat):List (Option Nat)→Bool
 | []=>true
 | none::l=>okD n ms l
 | some d::l=>decide (d<n) && !ms.contains d && !l.contains (some d) && okD n ms l
theorem FY {n:Nat}{ms:List Nat}:∀ {l:List (Option Nat)}{k d:Nat},okD n ms l=true→l[k]?=some (some d)→d<n∧d ∉ ms
 | none::l,0,d,_,h=>by simp at h
 | none::l,k+1,d,ho,h=>FY (l:=l) (k:=k) (by simpa[okD] using ho) (by simpa using h)
 | some x::l,0,d,ho,h=>by
  have e:x=d:=by simpa using h
  subst e;simp only[okD,Bool.and_eq_true,decide_eq_true_eq]at ho;refine⟨ho.1.1.1,fun hm=>?_⟩;have:=ho.1.1.2;simp[hm]at this
 | some x::l,k+1,d,ho,h=>FY (l:=l) (k:=k) (by simp only[okD,Bool.and_eq_true]at ho;exact ho.2) (by simpa using h)
theorem Ky {n:Nat}{ms:List Nat}:∀ {l:List (Option Nat)}{j k d:Nat},okD n ms l=true→l[j]?=some (some d)→l[k]?=some (some d)→j=k
 | [],_,_,_,_,h,_=>by simp at h
 | none::l,0,_,d,_,h,_=>by simp at h
 | none::l,j+1,0,d,_,_,h=>by simp at h
 | none::l,j+1,k+1,d,ho,h,h2=>by
  have:=Ky (l:=l) (j:=j) (k:=k) (by simpa[okD] using ho) (by simpa using h) (by simpa using h2)
  omega
 | some x::l,0,0,d,_,_,_=>rfl
 | some x::l,0,k+1,d,ho,h,h2=>by
  have e:x=d:=by simpa using h
  subst e;simp only[okD,Bool.and_eq_true,decide_eq_true_eq]at ho;have h3:=ho.1.2;have h4:some x∈l:=List.mem_of_getElem? (by simpa using h2);simp[h4]at h3
 | some x::l,j+1,0,d,ho,h,h2=>by
  have e:x=d:=by simpa using h2
  subst e;simp only[okD,Bool.and_eq_true,decide_eq_true_eq]at ho;have h3:=ho.1.2;have h4:some x∈l:=List.mem_of_getElem? (by simpa using h);simp[h4]at h3
 | some x::l,j+1,k+1,d,ho,h,h2=>by
  simp only[okD,Bool.and_eq_true]at ho;have:=Ky (l:=l) (j:=j) (k:=k) ho.2 (by simpa using h) (by simpa using h2)
  omega
theorem ES:∀ {m:List (Nat×Value)}{t:Nat}{u:Value},m.lookup t=some u→t∈m.map Prod.fst
 | [],_,_,h=>by simp at h
 | (s,v)::m,t,u,h=>by
  rw[List.lookup_cons]at h
  by_cases e:t=s
  ·simp[e]
  ·have e2:(t == s)=false:=by simpa using e
   rw[e2]at h;exact List.mem_cons_of_mem _ (ES h)
def EO (ops:Array Oper) (V:Nat→Value→World→Prop) (L:Nat→Bool) (a:Act) (w:World):Prop:=∀ j o d,ops[j]?=some o→o.dst=some d→L j=true→∃ v,a.tmps[d]?=some v∧V j v w
theorem D8 {P:Program}{id:Nat}{Q:Exit→Act→World→Prop}{a:Act}{w:World}{ops:Array Oper}{n:Nat}{m:List (Nat×Value)}(hm:P.follows .mixedOrders=true) (hsl:Sl a n m) (ds:List (Option Nat)) (hds:ops.toList.map Oper.dst=ds) (hok:okD n (m.map Prod.fst) ds=true) (hdag:dag ops=true)
  (V:Nat→Value→World→Prop) (I:(Nat→Bool)→World→Prop) (hI:I (fun _=>false) w.drew)
  (hk:∀ (k:Nat) (o:Oper),k<ops.size→ops[k]?=some o→∀ L a w,I L w→L k=false→Sl a n m→EO ops V L a w→(∀ d∈waits o,L d=true)→wpOp P ops Q k (fun a' w'=>∃ v,a'=a.put o.dst v∧V k v w'∧I (BC L k true) w'∧∀ j u,V j u w→V j u w') a w)
  (he:∀ L a w,(∀ k,k<ops.size→L k=true)→I L w→Sl a n m→EO ops V L a w→Q .normal a w):(Code.region id ops true).wp P Q a w:=by
 have hd:∀ (j:Nat) (o:Oper),ops[j]?=some o→ds[j]?=some o.dst:=fun j o h=>by
  subst hds;rw[List.getElem?_map,Array.getElem?_toList,h];rfl
 refine DC hm (fun L a' w'=>I L w'∧Sl a' n m∧EO ops V L a' w') ⟨hI,hsl,fun j o d _ _ h=>by simp at h⟩ ?_ ?_
 ·rintro L a' w' i o ho ⟨h1,h2,h3⟩ hli hri;have hi:=(Array.getElem?_eq_some_iff.1 ho).1;refine wpOp_mono ?_ (hk i o hi ho L a' w' h1 hli h2 h3 (CX hri));rintro a2 w2 ⟨v,rfl,hv,hI2,hmono⟩;refine⟨hI2,?_,?_⟩
  ·cases e:o.dst with
   | none=>exact h2
   | some d =>
    have hdd:=hd i o ho;rw[e]at hdd;obtain⟨hlt,hnm⟩:=FY hok hdd;have hp:=h2.put d v hlt;refine⟨hp.size,hp.defers,fun t u hu=>hp.get t u ?_⟩;rw[List.lookup_cons]
    have e2:(t == d)=false:=by
     have:t≠d:=by rintro rfl;exact hnm (ES hu)
     simpa using this
    rw[e2];exact hu
  ·intro j o' d hj hjd hLj;have hdj:=hd j o' hj;rw[hjd]at hdj
   cases e:o.dst with
   | none =>
    have hne:j≠i:=by
     rintro rfl;rw[ho]at hj;obtain rfl:=Option.some.inj hj;rw[e]at hjd;simp at hjd
    rw[Ap _ _ hne]at hLj;obtain⟨u,hu,hvu⟩:=h3 j o' d hj hjd hLj;exact⟨u,hu,hmono _ _ hvu⟩
   | some x =>
    have hdi:=hd i o ho;rw[e]at hdi
    by_cases c:j=i
    ·subst c;rw[hdj]at hdi;obtain rfl:d=x:=by simpa using hdi
     obtain⟨hlt,_⟩:=FY hok hdj;exact⟨v,by simp[Act.put,h2.size,hlt],hv⟩
    ·rw[Ap _ _ c]at hLj;obtain⟨u,hu,hvu⟩:=h3 j o' d hj hjd hLj
     have hxd:x≠d:=by
      rintro rfl;exact c (Ky hok hdj hdi)
     refine⟨u,?_,hmono _ _ hvu⟩;simp only[Act.put];rw[Array.getElem?_setIfInBounds_ne hxd];exact hu
 ·rintro L a' w' hall ⟨h1,h2,h3⟩;exact he L a' w' (GY hdag hall) h1 h2 h3
theorem Sl.go {P:Program}{ops:Array Oper}{Q:Exit→Act→World→Prop}{rest:List Nat}{a:Act}{w:World}{n:Nat}{m:List (Nat×Value)}{d:Nat}{v:Value}(h:Sl a n m) (hd:d<n) (hG:∀ a',Sl a' n ((d,v)::m)→wpOps P ops Q rest a' w):wpOps P ops Q rest (a.put (some d) v) w:=hG _ (h.put d v hd)
end
section
open Go.RowKit
section
variable {P:Program}{ops:Array Oper}{Q:Exit→Act→World→Prop}{i:Nat}{rest:List Nat}{o:Oper}{a:Act}{w:World}{n:Nat}{m:List (Nat×Value)}{d:Nat}{v:Value}
theorem Sl.k (h:Sl a n m) {K:Act→World→Prop}(hK:∀ a w,wpOps P ops Q rest a w→K a w) (hd:d<n) (hG:∀ a',Sl a' n ((d,v)::m)→wpOps P ops Q rest a' w):K (a.put (some d) v) w:=hK _ _ (hG _ (h.put d v hd))
theorem Sl.mv (h:Sl a n m) {x:Nat}(ho:ops[i]?=some o) (hg:o.guard=none) (hp:o.op=.move (.tmp x)∨o.op=.assign (.tmp x)) (hd:o.dst=some d) (hn:d<n) (hx:m.lookup x=some v) (hG:∀ a',Sl a' n ((d,v)::m)→wpOps P ops Q rest a' w):wpOps P ops Q (i::rest) a w:=by
 refine BQ ho hg (fun K hK=>?_);have e:=h.ev x hx;have:execOp a.eval o=pure (.value v):=by unfold execOp;rcases hp with hp|hp<;>rw[hp,← e]
 unfold Oper.wp;rw[this,Sem.run_pure,Oper.upon_value,hd];exact h.k hK hn hG
theorem Sl.co (h:Sl a n m) (ho:ops[i]?=some o) (hg:o.guard=none) (hp:o.op=.move (.const v)∨o.op=.assign (.const v)) (hd:o.dst=some d) (hn:d<n) (hG:∀ a',Sl a' n ((d,v)::m)→wpOps P ops Q rest a' w):wpOps P ops Q (i::rest) a w:=by
 refine BQ ho hg (fun K hK=>?_);have:execOp a.eval o=pure (.value v):=by unfold execOp;rcases hp with hp|hp<;>rw[hp]<;>rfl
 unfold Oper.wp;rw[this,Sem.run_pure,Oper.upon_value,hd];exact h.k hK hn hG
theorem Sl.mw (h:Sl a n m) {x k t:Nat}{b:Bool}{ok:Oper}(ho:ops[i]?=some o) (hg:o.guard=some (k,b)) (hk:ops[k]?=some ok) (ht:ok.dst=some t) (hb:m.lookup t=some (.bool b)) (hp:o.op=.move (.tmp x)∨o.op=.assign (.tmp x)) (hd:o.dst=some d) (hn:d<n) (hx:m.lookup x=some v) (hG:∀ a',Sl a' n ((d,v)::m)→wpOps P ops Q rest a' w):wpOps P ops Q (i::rest) a w:=by
 refine PW ho hg hk ht (h.get _ _ hb) (fun K hK=>?_);have e:=h.ev x hx;have:execOp a.eval o=pure (.value v):=by unfold execOp;rcases hp with hp|hp<;>rw[hp,← e]
 unfold Oper.wp;rw[this,Sem.run_pure,Oper.upon_value,hd];exact h.k hK hn hG
theorem Sl.no (h:Sl a n m) {k t:Nat}{b c:Bool}{ok:Oper}(ho:ops[i]?=some o) (hg:o.guard=some (k,b)) (hk:ops[k]?=some ok) (ht:ok.dst=some t) (hb:m.lookup t=some (.bool c)) (hc:c≠b) (hd:o.dst=some d) (hn:d<n) (hG:∀ a',Sl a' n ((d,undef)::m)→wpOps P ops Q rest a' w):wpOps P ops Q (i::rest) a w:=by
 refine Zc ho hg hk ht (h.get _ _ hb) hc ?_;rw[hd];exact hG _ (h.put d undef hn)
end
end
section
open Go.RowKit
theorem AaW {w:World}{k:Nat}{c:Array Value}{t:TypeId}{fz:Nat×Nat}(h:w.heap[k]?=some (.cells c t fz)) {o:Nat}{v:Value}(ho:c[o]?=some v):w.cell? ⟨k,o,none⟩=some v:=by
 simp[World.cell?,h,ho]
theorem VD {w w':World}(hb:Below w.heap.size w w') {k:Nat}{o:Obj}(h:w.heap[k]?=some o):w'.heap[k]?=some o:=(hb.block k (Array.getElem?_eq_some_iff.1 h).1).trans h
def Rw (w:World) (b:Nat) (c:Array Value) (t:TypeId):Prop:=w.heap[b]?=some (.cells c t (0,0))
theorem Rw.lt {w:World}{b:Nat}{c:Array Value}{t:TypeId}(h:Rw w b c t):b<w.heap.size:=(Array.getElem?_eq_some_iff.1 h).1
theorem Rw.cell {w:World}{b:Nat}{c:Array Value}{t:TypeId}(h:Rw w b c t) {o:Nat}{v:Value}(ho:c[o]?=some v):w.cell? ⟨b,o,none⟩=some v:=AaW h ho
theorem Rw.fz {w:World}{b:Nat}{c:Array Value}{t:TypeId}(h:Rw w b c t) (o:Nat):w.frozen? ⟨b,o,none⟩=false:=by
 unfold Rw at h;simp[World.frozen?,h]
theorem Rw.below {w w':World}{b:Nat}{c:Array Value}{t:TypeId}(h:Rw w b c t) (hb:Below w.heap.size w w'):Rw w' b c t:=VD hb h
theorem Rw.far {w:World}{b g:Nat}{c:Array Value}{t:TypeId}(h:Rw w b c t) (hne:b≠g) (o:Nat) (v:Value):Rw (w.setCell ⟨g,o,none⟩ v) b c t:=by
 unfold Rw at *;rw[Below.heap_setCell _ _ _ _ (by simpa using hne)];exact h
theorem Rw.set {w:World}{b:Nat}{c:Array Value}{t:TypeId}(h:Rw w b c t) (o:Nat) (v:Value):Rw (w.setCell ⟨b,o,none⟩ v) b (c.setIfInBounds o v) t:=by
 unfold Rw at *;simp[World.setCell,Array.getElem?_modify,h]
theorem Rw.new (w:World) (c:Array Value) (t:TypeId):Rw (w.alloc (.cells c t)) w.heap.size c t:=by
 show (w.heap.push _)[w.heap.size]?=some _;simp
theorem DL (w:World) (o:Obj):Below w.heap.size w (w.alloc o):=(Below.refl _ _).alloc (Nat.le_refl _) _
end
section
open Go.RowKit
theorem Ic {P:Program}{id:Nat}{Q:Exit→Act→World→Prop}{a:Act}{w:World}{ops:Array Oper}{n:Nat}{m:List (Nat×Value)}(k0:Nat) (hm:P.follows .mixedOrders=true) (hsz:ops.size=k0+1) (hanc:Pq ops k0=true) (hdag:dag ops=true) (Z:Sl a n m) (ds:List (Option Nat)) (hds:(ops.toList.take k0).map Oper.dst=ds) (hok:okD n (m.map Prod.fst) ds=true)
  (V:Nat→Value→World→Prop) (I:(Nat→Bool)→World→Prop) (hI:I (fun _=>false) w.drew)
  (hk:∀ (k:Nat) (o:Oper),k<k0→ops[k]?=some o→∀ L a w,I L w→L k=false→Sl a n m→EO ops V L a w→(∀ d∈waits o,L d=true)→wpOp P ops Q k (fun a' w'=>∃ v,a'=a.put o.dst v∧V k v w'∧I (BC L k true) w'∧∀ j u,V j u w→V j u w') a w)
  (hl:∀ L a w,(∀ k,k<k0→L k=true)→I L w→Sl a n m→EO ops V L a w→wpOp P ops Q k0 (fun a' w'=>Q .normal a' w') a w):(Code.region id ops true).wp P Q a w:=by
 have hd:∀ (j:Nat) (o:Oper),ops[j]?=some o→j<k0→ds[j]?=some o.dst:=fun j o h hj=>by
  subst hds;rw[List.getElem?_map,List.getElem?_take_of_lt hj,Array.getElem?_toList,h];rfl
 refine DC hm (fun L a' w'=>(∀ k o,ops[k]?=some o→L k=true→BP o L=true)∧(L k0=true→Q .normal a' w')∧(L k0=false→I L w'∧Sl a' n m∧EO ops V L a' w')) ⟨fun _ _ _ h=>by simp at h,fun h=>by simp at h,fun _=>⟨hI,Z,fun j o d _ _ h=>by simp at h⟩⟩ ?_ ?_
 ·rintro L a' w' i o ho ⟨hc,h1,h2⟩ hli hri;have hi:i<k0+1:=by have:=(Array.getElem?_eq_some_iff.1 ho).1;omega
  have hgo:∀ k o',ops[k]?=some o'→BC L i true k=true→BP o' (BC L i true)=true:=by
   intro k o' hk' hLk
   have hmono:∀ j,L j=true→BC L i true j=true:=fun j hj=>by
    unfold BC;split
    ·rfl
    ·exact hj
   by_cases e:k=i
   ·subst e;obtain rfl:=Option.some.inj (ho.symm.trans hk');exact DD hmono hri
   ·rw[Ap _ _ e]at hLk;exact DD hmono (hc k o' hk' hLk)
  have hanc1:∀ (L:Nat→Bool),(∀ k o,ops[k]?=some o→L k=true→BP o L=true)→L k0=true→∀ k,k<k0+1→L k=true:=fun L hc hLm k hkm=>by
   refine Qk hc ops.size (· == k0) (fun k hk=>?_) k ?_
   ·have:k=k0:=by simpa using hk
    rw[this];exact hLm
   ·unfold Pq at hanc;rw[List.all_eq_true]at hanc;exact hanc k (by rw[List.mem_range];omega)
  have hm0:L k0=false:=by
   cases e:L k0
   ·rfl
   ·rw[hanc1 L hc e i hi]at hli;simp at hli
  obtain⟨hI1,hs1,hS1⟩:=h2 hm0
  by_cases e:i=k0
  ·subst e;refine wpOp_mono ?_ (hl L a' w' (fun k hkm=>?_) hI1 hs1 hS1)
   ·intro a2 w2 hq;exact⟨hgo,fun _=>hq,fun h=>by rw[Ez]at h;simp at h⟩
   ·have:=hanc1 (BC L i true) hgo (by rw[Ez]) k (by omega)
    rwa [Ap _ _ (by omega)]at this
  ·have hik:i<k0:=by omega
   refine wpOp_mono ?_ (hk i o hik ho L a' w' hI1 hli hs1 hS1 (CX hri));rintro a2 w2 ⟨v,rfl,hv,hI2,hmono⟩;refine⟨hgo,fun h=>by rw[Ap _ _ (Ne.symm e),hm0]at h;simp at h,fun _=>⟨hI2,?_,?_⟩⟩
   ·cases ed:o.dst with
    | none=>exact hs1
    | some d =>
     have hdd:=hd i o ho hik;rw[ed]at hdd;obtain⟨hlt,hnm⟩:=FY hok hdd;have hp:=hs1.put d v hlt;refine⟨hp.size,hp.defers,fun t u hu=>hp.get t u ?_⟩;rw[List.lookup_cons]
     have e2:(t == d)=false:=by
      have:t≠d:=by rintro rfl;exact hnm (ES hu)
      simpa using this
     rw[e2];exact hu
   ·intro j o' d hj hjd hLj
    have hjk:j<k0:=by
     have h1:=(Array.getElem?_eq_some_iff.1 hj).1
     by_cases c:j=k0
     ·subst c;rw[Ap _ _ (Ne.symm e),hm0]at hLj;simp at hLj
     ·omega
    have hdj:=hd j o' hj hjk;rw[hjd]at hdj
    cases ed:o.dst with
    | none =>
     have hne:j≠i:=by
      rintro rfl;rw[ho]at hj;obtain rfl:=Option.some.inj hj;rw[ed]at hjd;simp at hjd
     rw[Ap _ _ hne]at hLj;obtain⟨u,hu,hvu⟩:=hS1 j o' d hj hjd hLj;exact⟨u,hu,hmono _ _ hvu⟩
    | some x =>
     have hdi:=hd i o ho hik;rw[ed]at hdi
     by_cases c:j=i
     ·subst c;rw[hdj]at hdi;obtain rfl:d=x:=by simpa using hdi
      obtain⟨hlt,_⟩:=FY hok hdj;exact⟨v,by simp[Act.put,hs1.size,hlt],hv⟩
     ·rw[Ap _ _ c]at hLj;obtain⟨u,hu,hvu⟩:=hS1 j o' d hj hjd hLj
      have hxd:x≠d:=by
       rintro rfl;exact c (Ky hok hdj hdi)
      refine⟨u,?_,hmono _ _ hvu⟩;simp only[Act.put];rw[Array.getElem?_setIfInBounds_ne hxd];exact hu
 ·rintro L a' w' hall ⟨_,h1,_⟩;exact h1 (GY hdag hall k0 (by omega))
end
end Go.Proofs.Ytgdobbcjkiapkaa
