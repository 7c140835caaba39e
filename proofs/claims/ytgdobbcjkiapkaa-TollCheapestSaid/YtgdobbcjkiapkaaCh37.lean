import Derived.Test.YtgdobbcjkiapkaaCh04
import Derived.Test.YtgdobbcjkiapkaaCh35
import Derived.Test.YtgdobbcjkiapkaaCh02
namespace Go.Proofs.Ytgdobbcjkiapkaa
set_option maxRecDepth 100000
set_option maxHeartbeats 4000000
set_option linter.unusedSimpArgs false
set_option linter.unusedVariables false
section
open Go.RowKit
theorem UC:Try.f31.body=some (Code.seq (Aa Try.f31 0) (Code.seq (Aa Try.f31 1) (Code.seq (Code.seq (Aa Try.f31 2) (Code.cond (Operand.tmp 23) (Code.seq (Aa Try.f31 3) Code.ret) Code.skip)) (Code.seq (Aa Try.f31 4) (Code.seq (Code.seq (Aa Try.f31 5) (Code.block 0 (Code.loop (Code.seq (Aa Try.f31 6) (Code.seq (Code.cond (Operand.tmp 30) Code.skip (Code.exit 0)) (Code.seq (Code.block 1 (Code.seq (Aa Try.f31 7) (Code.seq (Aa Try.f31 8) (Code.seq (Code.seq (Aa Try.f31 9) (Code.block 2 (Code.loop (Code.seq (Aa Try.f31 10) (Code.seq (Code.cond (Operand.tmp 36) Code.skip (Code.exit 2)) (Code.seq (Code.block 3 (Code.seq (Aa Try.f31 11) (Aa Try.f31 12))) (Aa Try.f31 13))))))) (Code.seq (Aa Try.f31 14) (Code.block 4 (Code.loop (Code.seq (Aa Try.f31 15) (Code.seq (Code.cond (Operand.tmp 56) Code.skip (Code.exit 4)) (Code.seq (Code.block 5 (Code.seq (Aa Try.f31 16) (Code.seq (Code.seq (Aa Try.f31 17) (Code.block 6 (Code.loop (Code.seq (Aa Try.f31 18) (Code.seq (Code.cond (Operand.tmp 59) Code.skip (Code.exit 6)) (Code.seq (Code.block 7 (Code.seq (Aa Try.f31 19) (Code.seq (Aa Try.f31 20) (Code.cond (Operand.tmp 66) (Aa Try.f31 21) Code.skip)))) (Aa Try.f31 22))))))) (Code.seq (Aa Try.f31 23) (Aa Try.f31 24))))) (Aa Try.f31 25))))))))))) (Aa Try.f31 26))))))) (Code.seq (Aa Try.f31 27) Code.ret)))))):=by kernel_rfl
theorem AaB {w xs x0:World} {bt bd mb bo br g k j:Nat} {t:Ac} {s:DF} {l:List AV} {R:Nat→Int} (hI0:TI w x0 bt t s) (hD0:Il x0 bd mb t s l) (hFL:Fz t l) (hT:Ak t=0) (hk:k < t.Ad.length) (hj:j < t.Ai.length) (HB:Below x0.heap.size x0 xs) (hbr:x0.heap.size≤br) (hg:br < g) (K:Rw xs br (ar4 R) 118) (G:Rw xs g #[.int .i64 t.Ai[j].strip, .int .i64 t.Ai[j].rate, .int .i64 t.Ai[j].farmer] 57) (hRb:∀ m,0≤R m∧R m≤200000000000*(j:Int)) {v2 v8 v28 v29 v33 v34 v35:Value} (a:Act) (Z:Sl a 83 [(2,v2),(6, .pointer (some ⟨bd,0,none⟩)),(8,v8),(28,v28),(29,v29),(9, .int .i64 (k:Int)),(10, .pointer (some ⟨br,0,none⟩)),(33,v33),(34,v34),(35,v35),(11, .int .i64 (j:Int)),(12, .pointer (some ⟨g,0,none⟩))]) (Q:Exit→Act→World→Prop)
  (h:∀ a x2,Sl a 83 [(2,v2),(6, .pointer (some ⟨bd,0,none⟩)),(8,v8),(28,v28),(29,v29),(9, .int .i64 (k:Int)),(10, .pointer (some ⟨br,0,none⟩)),(33,v33),(34,v34),(35,v35)]→(∀ B,B≤br→Below B xs x2)→Rw x2 br (ar4 (upd R (SV t j) (R (SV t j)+atL t l k j))) 118→Q .normal a x2):(Aa Try.f31 12).wp Try.prog Q a xs:=by
 obtain ⟨_,_,_,_,_,_,_,hl6,hte⟩:=Au hT;have hfm:=Aj.1 (Ob hte _ (List.getElem_mem hj)).2.2;obtain ⟨m,hm⟩:∃ m:Nat,t.Ai[j].farmer-1=(m:Int):=⟨(t.Ai[j].farmer-1).toNat,by omega⟩;have hm4:m < 4:=by omega
 have hmi:SV t j=m:=by unfold SV;rw [getD_at hj,hm];simp
 rw [hmi] at h;have hww:IntKind.i64.wrap (t.Ai[j].farmer-1)=(m:Int):=by rw [IntWalk.i64_in _ (by omega),hm]
 have hab:=hFL.GX hk j;have hRm:=hRb m;have hw2:IntKind.i64.wrap (R m+atL t l k j)=R m+atL t l k j:=IntWalk.i64_in _ (by omega);clear hm hmi hRb hfm;rw [show Aa Try.f31 12=Code.region 12 _ true from rfl];refine G6 11 (by kernel_rfl) rfl (by kernel_rfl) (by kernel_rfl) (Z) [some 40,some 41,some 42,some 43,some 44,some 45,some 46,some 47,some 48,some 49,some 50] rfl rfl (fun jj v _=>match jj with | 0=>v = .pointer (some ⟨g,2,none⟩) | 1=>v = .int .i64 t.Ai[j].farmer | 2=>v = .int .i64 (m:Int) | 3=>v = .pointer (some ⟨br,m,none⟩) | 4=>v = .int .i64 (R m) | 5=>v = .pointer (some ⟨bd,0,none⟩) | 6=>v = .int .i64 (k:Int) | 7=>v = .int .i64 (j:Int) | 8=>v = .int .i64 (atL t l k j) | 9=>v = .int .i64 (R m+atL t l k j) | 10=>v = .pointer (some ⟨br,m,none⟩) | _=>True) (fun _ y=>Rw y br (ar4 R) 118∧Rw y g #[.int .i64 t.Ai[j].strip, .int .i64 t.Ai[j].rate, .int .i64 t.Ai[j].farmer] 57∧Below x0.heap.size x0 y∧(∀ B,B≤br→Below B xs y)) ⟨K.below (Below.refl _ _).drew,G.below (Below.refl _ _).drew,HB.trans ((Below.refl _ _).drew.mono HB.size),fun B _=>(Below.refl B xs).drew⟩ ?_ ?_
 ·clear Z;intro k o hkl ho L a x hI hLk Z hs hd;have hlt:∀ k:Nat,k < 11→k=0∨k=1∨k=2∨k=3∨k=4∨k=5∨k=6∨k=7∨k=8∨k=9∨k=10:=by decide
  rcases hlt k hkl with rfl | rfl | rfl | rfl | rfl | rfl | rfl | rfl | rfl | rfl | rfl
  ·obtain rfl:=Option.some.inj ho;have e12:=Z.g 12;clear hs hd;refine wg fun K hK =>?_
   unfold Oper.wp;go_simp;exact hK _ _ ⟨_,rfl,rfl,hI,fun _ _ h=>h⟩
  ·obtain rfl:=Option.some.inj ho;obtain ⟨_,e40,rfl⟩:=hs 0 _ 40 rfl rfl (hd 0 wm);have c:=hI.2.1.cell (o:=2) rfl;clear hs hd;refine wg fun K hK =>?_
   unfold Oper.wp;go_simp;exact hK _ _ ⟨_,rfl,rfl,hI,fun _ _ h=>h⟩
  ·obtain rfl:=Option.some.inj ho;obtain ⟨_,e41,rfl⟩:=hs 1 _ 41 rfl rfl (hd 1 wm);clear hs hd;refine wg fun K hK =>?_
   unfold Oper.wp;go_simp;exact hK _ _ ⟨_,rfl,rfl,hI,fun _ _ h=>h⟩
  ·obtain rfl:=Option.some.inj ho;have e10:=Z.g 10;obtain ⟨_,e42,rfl⟩:=hs 2 _ 42 rfl rfl (hd 2 wm);have q4:(m:Int) < 4:=by omega
   clear hs hd;refine wg fun K hK =>?_
   unfold Oper.wp;go_simp;exact hK _ _ ⟨_,rfl,rfl,hI,fun _ _ h=>h⟩
  ·obtain rfl:=Option.some.inj ho;obtain ⟨_,e43,rfl⟩:=hs 3 _ 43 rfl rfl (hd 3 wm);have c:=hI.1.cell (o:=m) (Gq hm4);clear hs hd;refine wg fun K hK =>?_
   unfold Oper.wp;go_simp;exact hK _ _ ⟨_,rfl,rfl,hI,fun _ _ h=>h⟩
  ·obtain rfl:=Option.some.inj ho;have e6:=Z.g 6;clear hs hd;refine wg fun K hK =>?_
   unfold Oper.wp;go_simp;exact hK _ _ ⟨_,rfl,rfl,hI,fun _ _ h=>h⟩
  ·obtain rfl:=Option.some.inj ho;have e9:=Z.g 9;clear hs hd;refine wg fun K hK =>?_
   unfold Oper.wp;go_simp;exact hK _ _ ⟨_,rfl,rfl,hI,fun _ _ h=>h⟩
  ·obtain rfl:=Option.some.inj ho;have e11:=Z.g 11;clear hs hd;refine wg fun K hK =>?_
   unfold Oper.wp;go_simp;exact hK _ _ ⟨_,rfl,rfl,hI,fun _ _ h=>h⟩
  ·obtain rfl:=Option.some.inj ho;obtain ⟨_,e45,rfl⟩:=hs 5 _ 45 rfl rfl (hd 5 wm);obtain ⟨_,e46,rfl⟩:=hs 6 _ 46 rfl rfl (hd 6 wm);obtain ⟨_,e47,rfl⟩:=hs 7 _ 47 rfl rfl (hd 7 wm);clear hs hd;refine wg fun K hK =>?_
   unfold Oper.wp;go_simp;refine (Zz (hI0.keep hI.2.2.1).tar (hD0.below hI.2.2.1) hFL hk hj).mono ?_;rintro e x2 ⟨rfl,hb⟩;have hI2:Rw x2 br (ar4 R) 118∧Rw x2 g #[.int .i64 t.Ai[j].strip, .int .i64 t.Ai[j].rate, .int .i64 t.Ai[j].farmer] 57∧Below x0.heap.size x0 x2∧(∀ B,B≤br→Below B xs x2):=⟨hI.1.below hb,hI.2.1.below hb,hI.2.2.1.trans (hb.mono hI.2.2.1.size),fun B hB=>(hI.2.2.2 B hB).trans (hb.mono (by have:=hI.1.lt;omega))⟩;clear hI;have hI:=hI2;exact hK _ _ ⟨_,rfl,rfl,hI,fun _ _ h=>h⟩
  ·obtain rfl:=Option.some.inj ho;obtain ⟨_,e44,rfl⟩:=hs 4 _ 44 rfl rfl (hd 4 wm);obtain ⟨_,e48,rfl⟩:=hs 8 _ 48 rfl rfl (hd 8 wm);clear hs hd;refine wg fun K hK =>?_
   unfold Oper.wp;go_simp;exact hK _ _ ⟨_,rfl,rfl,hI,fun _ _ h=>h⟩
  ·obtain rfl:=Option.some.inj ho;have e10:=Z.g 10;obtain ⟨_,e42,rfl⟩:=hs 2 _ 42 rfl rfl (hd 2 wm);have q4:(m:Int) < 4:=by omega
   clear hs hd;refine wg fun K hK =>?_
   unfold Oper.wp;go_simp;exact hK _ _ ⟨_,rfl,rfl,hI,fun _ _ h=>h⟩
 ·clear Z;intro L a x hall hI Z hs;obtain ⟨_,e49,rfl⟩:=hs 9 _ 49 rfl rfl (hall 9 (by decide));obtain ⟨_,e50,rfl⟩:=hs 10 _ 50 rfl rfl (hall 10 (by decide));have q4:(m:Int) < 4:=by omega
  have c:=hI.1.cell (o:=m) (Gq hm4);have z:=hI.1.fz m;clear hs;refine wg fun K hK =>?_
  unfold Oper.wp;go_simp;refine hK _ _ (h _ _ Z.sb (fun B hB=>(hI.2.2.2 B hB).setCell (p:=⟨br,m,none⟩) (by show B≤br;exact hB) _) ?_);have:=hI.1.set m (.int .i64 (R m+atL t l k j));rw [Tv hm4] at this;exact this
theorem SS {t:Ac} {s:DF} {l:List AV} {la:Option Addr} {lc:Nat} {w:World} (ht:BM w t s) (hl:GY w la l) (hlm:l.length≤maxLen):Calls Try.prog 31 #[.agg (Em t s), .slice la l.length lc] w (fun e w'=>Below w.heap.size w w'∧(Ea t l≠0→e = .returned (.tuple #[.slice none 0 0, .int .i64 (Ea t l)]))∧(Ea t l=0→∃ bo,e = .returned (.tuple #[.slice (some ⟨bo,0,none⟩) 4 4, .int .i64 0])∧w.heap.size≤bo∧Rw w' bo (ar4 (GH t l t.Ad.length)) 3)):=by
 refine KI Try.func31 UC Try.ntmps31 ?_;intro a Z;refine wsr ?_;refine Z.s ?_;clear Z;intro a Z;refine Ae (G:=fun W=>wpOps _ _ _ _ _ W) ?_;intro x hz X hb;have hI:=TI.made (Below.refl _ _) ht X hb;obtain ⟨bt,hbt⟩:∃ b,b=w.heap.size:=⟨_,rfl⟩;rw [← hbt] at Z hI;clear hz X hb hbt;(iterate 2 refine Z.s ?_;clear Z;intro a Z);refine od ?_;refine wsr ?_;refine og fun K hK =>?_
 have e2:=Z.g 2;have c0:=hI.c0;have c1:=hI.c1;have c2:=hI.c2;have c3:=hI.c3;have c4:=hI.c4;have c5:=hI.c5;unfold Oper.wp;go_simp;clear e2;refine Z.K hK ?_;clear Z hK;intro a Z;refine Z.s ?_;clear Z;intro a Z;refine og fun K hK =>?_
 have e17:=Z.g 17;have e18:=Z.g 18;unfold Oper.wp;go_simp;refine (P6 hI.tar (hl.below hI.below) hlm).mono ?_;rintro e x2 ⟨hb2,hN,hS⟩;have hxx:=hI.below.size;replace hI:=hI.keep hb2;clear e17 e18
 by_cases h1:Ea t l=0
 ·obtain ⟨bd,mb,rfl,hbd,hmb,hD⟩:=hS h1;have HE:=Lib.hid h1;have hne:=Cf h1;clear hS hN hb2 hxx h1;refine Z.K hK ?_;clear Z hK;intro a Z;obtain ⟨x,hx2⟩:∃ x,x=x2:=⟨_,rfl⟩;rw [← hx2] at hI ⊢ hD;clear hx2;(iterate 5 refine Z.s ?_;clear Z;intro a Z);refine od ?_;refine wp_seq ?_;refine wsr ?_;(iterate 2 refine Z.s ?_;clear Z;intro a Z);refine od ?_;refine wp_cond_false (Z.ev 23 rfl) ?_;refine wp_skip ?_;refine wsr ?_;refine Z.s ?_;clear Z;intro a Z;refine Ae (G:=fun W=>wpOps _ _ _ _ _ W) ?_;obtain ⟨bo,hg⟩:∃ b,b=x.heap.size:=⟨_,rfl⟩;have hxx:=hI.below.size;obtain ⟨x0,hx0⟩:∃ x0,x0=x:=⟨_,rfl⟩;have hI0:=hI;have hD0:=hD;intro x hz O HB;rw [← hg] at Z O;rw [← hx0] at HB hI0 hD0 hxx hg;replace O:Rw x bo (ar4 fun _=>0) 3:=by refine Eq.mp (congrArg (fun c=>Rw x bo c 3) ?_) O;kernel_rfl
  have hbo:x0.heap.size≤bo:=by omega
  clear hI hD hz hg hx0;refine Z.s ?_;clear Z;intro a Z;refine od ?_;refine wp_seq ?_;refine wsr ?_;refine Z.s ?_;clear Z;intro a Z;refine og fun K hK =>?_
  have e26:=Z.g 26;have c4:=(hI0.keep HB).c4;unfold Oper.wp;go_simp;clear e26;refine Z.K hK ?_;clear Z hK;intro a Z;(iterate 2 refine Z.s ?_;clear Z;intro a Z);refine od ?_;refine wp_block ?_;have hT:=Pn HE.out;have hFL:=Fz.of hT (Gw HE.out).1 (Gw HE.out).2;obtain ⟨_,_,_,_,hl4,_,_,hl6,_⟩:=Au hT;refine wp_loop_ghost (fun n p x=>∃ k:Nat,k+n=t.Ad.length∧Sl p 83 [(2, .pointer (some ⟨bt,0,none⟩)),(6, .pointer (some ⟨bd,0,none⟩)),(8, .slice (some ⟨bo,0,none⟩) 4 4),(28, .int .i64 (t.Ad.length:Int)),(29, .int .i64 (k:Int))]∧Below x0.heap.size x0 x∧Rw x bo (ar4 (GH t l k)) 3) t.Ad.length ⟨0,by omega,Z.sb,HB,O⟩ ?_;clear Z HB O;rintro n a x ⟨k,hkn,Z,HB,O⟩;refine wsr ?_
  by_cases hlt:k < t.Ad.length
  ·have q1:(k:Int) < (t.Ad.length:Int):=by omega
   refine Z.s ?_;clear Z;intro a Z;refine od ?_;refine wp_seq ?_;refine wp_cond_true (Z.ev 30 rfl) ?_;refine wp_skip ?_;refine wp_seq ?_;refine wp_block ?_;refine wsr ?_;(iterate 2 refine Z.s ?_;clear Z;intro a Z);refine od ?_;refine wsr ?_;refine og fun K hK =>?_
   obtain ⟨br,hg⟩:∃ b,b=x.heap.size:=⟨_,rfl⟩;unfold Oper.wp;go_simp;refine Z.K hK ?_;clear Z hK;intro a Z;refine Ae (G:=fun W=>wpOps _ _ _ _ _ W) ?_;have hl1:=O.lt;intro x hz R hb;rw [← hg] at Z R;replace R:Rw x br (ar4 fun _=>0) 118:=R;replace O:=O.below hb;have hbr:bo < br:=by omega
   replace HB:=HB.trans (hb.mono HB.size);clear hz hg hb hl1;refine od ?_;refine wp_seq ?_;refine wsr ?_;refine Z.s ?_;clear Z;intro a Z;refine og fun K hK =>?_
   have e32:=Z.g 32;have c5:=(hI0.keep HB).c5;unfold Oper.wp;go_simp;clear e32;refine Z.K hK ?_;clear Z hK;intro a Z;(iterate 2 refine Z.s ?_;clear Z;intro a Z);refine od ?_;refine wp_block ?_;refine wp_loop_ghost (fun n p x=>∃ j:Nat,j+n=t.Ai.length∧Sl p 83 [(2, .pointer (some ⟨bt,0,none⟩)),(6, .pointer (some ⟨bd,0,none⟩)),(8, .slice (some ⟨bo,0,none⟩) 4 4),(28, .int .i64 (t.Ad.length:Int)),(29, .int .i64 (k:Int)),(9, .int .i64 (k:Int)),(10, .pointer (some ⟨br,0,none⟩)),(33, .slice s.ta t.Ai.length s.tc),(34, .int .i64 (t.Ai.length:Int)),(35, .int .i64 (j:Int))]∧Below x0.heap.size x0 x∧Rw x bo (ar4 (GH t l k)) 3∧Rw x br (ar4 (Ph t l k j)) 118) t.Ai.length ⟨0,by omega,Z.sb,HB,O,R⟩ ?_;clear Z HB O R;rintro n2 a x ⟨j,hjn,Z,HB,O,R⟩;refine wsr ?_
   by_cases hj:j < t.Ai.length
   ·have q2:(j:Int) < (t.Ai.length:Int):=by omega
    obtain ⟨tb,to_,hta,p0,p1,p2⟩:=(hI0.keep HB).tar.Ai.at hj;rw [hta] at Z;simp only [P8] at p0 p1 p2;refine Z.s ?_;clear Z;intro a Z;refine od ?_;refine wp_seq ?_;refine wp_cond_true (Z.ev 36 rfl) ?_;refine wp_skip ?_;refine wp_seq ?_;refine wp_block ?_;refine wsr ?_;(iterate 3 refine Z.s ?_;clear Z;intro a Z);refine og fun K hK =>?_
    obtain ⟨g,hg⟩:∃ b,b=x.heap.size:=⟨_,rfl⟩;unfold Oper.wp;go_simp;refine Z.K hK ?_;clear Z hK;intro a Z;refine Z.s ?_;clear Z;intro a Z;refine og fun K hK =>?_
    have e12:=Z.g 12;have e39:=Z.g 39;unfold Oper.wp;go_simp;clear e12 e39;refine hK _ _ ?_;clear hK;refine Ae (G:=fun W=>wpOps _ _ _ _ _ W) ?_;have hl1:=R.lt;intro x hz G hb;rw [← hg] at Z G;replace R:=R.below hb;replace O:=O.below hb;have hbg:br < g:=by omega
    replace HB:=HB.trans (hb.mono HB.size);clear hz hg hb hl1 p0 p1 p2;refine od ?_;refine AaB (bo:=bo) hI0 hD0 hFL hT hlt hj HB (by omega) hbg R G (FZ hFL hlt j) a Z.sb _ ?_;clear Z;intro a x2 Z hb R2;replace O:=(hb (bo+1) (by omega)).block bo (by omega) |>.trans O
    replace HB:=HB.trans (hb x0.heap.size (by omega));clear hb R G;have R:=R2;clear R2;obtain ⟨x,hx2⟩:∃ x,x=x2:=⟨_,rfl⟩;rw [← hx2] at R O HB ⊢;clear hx2;replace O:Rw x bo (ar4 (GH t l k)) 3:=O;refine wr ?_;refine og fun K hK =>?_
    have e35:=Z.g 35;have hww:=Bf j (by omega);unfold Oper.wp;go_simp;clear e35;refine Z.K hK ?_;clear Z hK;intro a Z;refine Z.s ?_;clear Z;intro a Z;refine od ?_;show Exists _;exact ⟨n2-1,by omega,j+1,by omega,by rw [hta];exact Z.sb,HB,O,R⟩
   ·obtain rfl:j=t.Ai.length:=by omega
    refine Z.s ?_;clear Z;intro a Z;refine od ?_;refine wp_seq ?_;refine wp_cond_false (Z.ev 36 rfl) ?_;refine wp_exit ?_;refine wsr ?_;(iterate 2 refine Z.s ?_;clear Z;intro a Z);refine og fun K hK =>?_
    have e52:=Z.g 52;have e53:=Z.g 53;unfold Oper.wp;go_simp;refine (Xz (hI0.keep HB).tar (hD0.below HB) hFL hlt).mono ?_;rintro e x ⟨rfl,hb⟩;replace O:=O.below hb;replace R:=R.below hb;replace HB:=HB.trans (hb.mono HB.size);clear hb;clear e52 e53;refine Z.K hK ?_;clear Z hK;intro a Z;obtain ⟨D,hDe⟩:∃ D:Nat,Jz t l k=(D:Int):=⟨(Jz t l k).toNat,by have:=(Xy hFL hlt hl6).1;omega⟩;rw [hDe] at Z;have HDE:=Lib.hid (show (Jz t l k).toNat=D from by rw [hDe];simp);have hDb:D≤6000000001:=by have:=(Xy hFL hlt hl6).2;omega
    clear hDe;refine Z.s ?_;clear Z;intro a Z;refine od ?_;refine wp_block ?_;obtain ⟨p0,hp0⟩:∃ p0,p0=(Ph t l k t.Ai.length,GH t l k):=⟨_,rfl⟩;have hbb:=H7 (FZ hFL hlt t.Ai.length) (fun z=>Lm hFL hl6 k z (by omega));rw [← hp0] at hbb;have HBB:=Lib.hid hbb;have HNX:=Lib.hid (show (EM p0 D).2=GH t l (k+1) from by rw [hp0,← HDE.out];rfl);replace R:Rw x br (ar4 (EM p0 0).1) 118:=by rw [hp0];exact R
    replace O:Rw x bo (ar4 (EM p0 0).2) 3:=by rw [hp0];exact O
    clear hp0 hbb HDE;refine wp_loop_ghost (fun n p x=>∃ i:Nat,i+n=D∧Sl p 83 [(2, .pointer (some ⟨bt,0,none⟩)),(6, .pointer (some ⟨bd,0,none⟩)),(8, .slice (some ⟨bo,0,none⟩) 4 4),(28, .int .i64 (t.Ad.length:Int)),(29, .int .i64 (k:Int)),(9, .int .i64 (k:Int)),(10, .pointer (some ⟨br,0,none⟩)),(54, .int .i64 (D:Int)),(55, .int .i64 (i:Int))]∧Below x0.heap.size x0 x∧Rw x bo (ar4 (EM p0 i).2) 3∧Rw x br (ar4 (EM p0 i).1) 118) D ⟨0,by omega,Z.sb,HB,O,R⟩ ?_;clear Z HB O R;rintro n3 a x ⟨i,hin,Z,HB,O,R⟩;refine wsr ?_
    by_cases hi:i < D
    ·have q3:(i:Int) < (D:Int):=by omega
     refine Z.s ?_;clear Z;intro a Z;refine od ?_;refine wp_seq ?_;refine wp_cond_true (Z.ev 56 rfl) ?_;refine wp_skip ?_;refine wp_seq ?_;refine wp_block ?_;refine wp_seq ?_;have HST:Hid (EM p0 (i+1)=ZK (EM p0 i)):=Lib.hid rfl;have hcb:=HBB.out i;generalize EM p0 i=cp at HST hcb O R;obtain ⟨r,o4⟩:=cp;have hrb:∀ z,-(200*(i:Int))≤r z∧r z≤200000000000*(t.Ai.length:Int):=fun z=>⟨(hcb z).1,(hcb z).2.1⟩
     have hob:∀ z,0≤o4 z∧o4 z≤6000000001*(k:Int)+(i:Int):=fun z=>⟨(hcb z).2.2.1,(hcb z).2.2.2⟩
     clear hcb;replace R:Rw x br (ar4 r) 118:=R;replace O:Rw x bo (ar4 o4) 3:=O;refine wr ?_;refine Z.s ?_;clear Z;intro a Z;refine od ?_;refine wp_seq ?_;refine wsr ?_;refine og fun K hK =>?_
     have e10:=Z.g 10;have c0:=R.cell (o:=0) rfl;have c1:=R.cell (o:=1) rfl;have c2:=R.cell (o:=2) rfl;have c3:=R.cell (o:=3) rfl;unfold Oper.wp;go_simp;clear e10;refine Z.K hK ?_;clear Z hK;intro a Z;refine Z.s ?_;clear Z;intro a Z;refine od ?_;refine wp_block ?_;refine wp_loop_ghost (fun n p x=>∃ f:Nat,f+n=4∧Sl p 83 [(2, .pointer (some ⟨bt,0,none⟩)),(6, .pointer (some ⟨bd,0,none⟩)),(8, .slice (some ⟨bo,0,none⟩) 4 4),(28, .int .i64 (t.Ad.length:Int)),(29, .int .i64 (k:Int)),(9, .int .i64 (k:Int)),(10, .pointer (some ⟨br,0,none⟩)),(54, .int .i64 (D:Int)),(55, .int .i64 (i:Int)),(13, .int .i64 (Dv r f:Int)),(57, .agg #[.int .i64 (r 0), .int .i64 (r 1), .int .i64 (r 2), .int .i64 (r 3)]),(58, .int .i64 (f:Int))]∧Below x0.heap.size x0 x∧Rw x bo (ar4 o4) 3∧Rw x br (ar4 r) 118) 4 ⟨0,by omega,Z.sb,HB,O,R⟩ ?_;clear Z HB O R;rintro n4 a x ⟨f,hfn,Z,HB,O,R⟩;refine wsr ?_
     by_cases hf:f < 4
     ·have q5:(f:Int) < 4:=by omega
      refine Z.s ?_;clear Z;intro a Z;refine od ?_;refine wp_seq ?_;refine wp_cond_true (Z.ev 59 rfl) ?_;refine wp_skip ?_;refine wp_seq ?_;refine wp_block ?_;refine wsr ?_;refine Z.s ?_;clear Z;intro a Z;rcases lt4 hf with hfe | hfe | hfe | hfe
      ·subst hfe;refine Z.s ?_;clear Z;intro a Z;replace Z:=(show Sl _ 83 ((61, .int .i64 (r 0)) :: _) from Z);(iterate 2 refine Z.s ?_;clear Z;intro a Z);refine od ?_;refine wsr ?_;(iterate 2 refine Z.s ?_;clear Z;intro a Z);refine og fun K hK =>?_
       have e10:=Z.g 10;have e63:=Z.g 63;have q4:(Dv r 0:Int) < 4:=by have:=Fv r (f:=0) (by omega);omega
       unfold Oper.wp;go_simp;clear e10 e63;refine Z.K hK ?_;clear Z hK;intro a Z;refine og fun K hK =>?_
       have e64:=Z.g 64;have c:=R.cell (o:=Dv r 0) (Gq (Fv r (by omega)));unfold Oper.wp;go_simp;clear e64;refine Z.K hK ?_;clear Z hK;intro a Z
       by_cases h7:r 0 > r (Dv r 0)
       ·have HP:=Lib.hid (show Dv r (0+1)=0 from if_pos h7);refine Z.s ?_;clear Z;intro a Z;refine od ?_;refine wp_cond_true (Z.ev 66 rfl) ?_;refine wr ?_;(iterate 2 refine Z.s ?_;clear Z;intro a Z);refine od ?_;refine wr ?_;refine og fun K hK =>?_
        have e58:=Z.g 58;have hww:=Bf 0 (by omega);unfold Oper.wp;go_simp;clear e58;refine Z.K hK ?_;clear Z hK;intro a Z;refine Z.s ?_;clear Z;intro a Z;refine od ?_;show Exists _;exact ⟨n4-1,by omega,0+1,by omega,by rw [HP.out];exact Z.sb,HB,O,R⟩
       ·have HP:=Lib.hid (show Dv r (0+1)=Dv r 0 from if_neg h7);refine Z.s ?_;clear Z;intro a Z;refine od ?_;refine wp_cond_false (Z.ev 66 rfl) ?_;refine wp_skip ?_;refine wr ?_;refine og fun K hK =>?_
        have e58:=Z.g 58;have hww:=Bf 0 (by omega);unfold Oper.wp;go_simp;clear e58;refine Z.K hK ?_;clear Z hK;intro a Z;refine Z.s ?_;clear Z;intro a Z;refine od ?_;show Exists _;exact ⟨n4-1,by omega,0+1,by omega,by rw [HP.out];exact Z.sb,HB,O,R⟩
      ·subst hfe;refine Z.s ?_;clear Z;intro a Z;replace Z:=(show Sl _ 83 ((61, .int .i64 (r 1)) :: _) from Z);(iterate 2 refine Z.s ?_;clear Z;intro a Z);refine od ?_;refine wsr ?_;(iterate 2 refine Z.s ?_;clear Z;intro a Z);refine og fun K hK =>?_
       have e10:=Z.g 10;have e63:=Z.g 63;have q4:(Dv r 1:Int) < 4:=by have:=Fv r (f:=1) (by omega);omega
       unfold Oper.wp;go_simp;clear e10 e63;refine Z.K hK ?_;clear Z hK;intro a Z;refine og fun K hK =>?_
       have e64:=Z.g 64;have c:=R.cell (o:=Dv r 1) (Gq (Fv r (by omega)));unfold Oper.wp;go_simp;clear e64;refine Z.K hK ?_;clear Z hK;intro a Z
       by_cases h7:r 1 > r (Dv r 1)
       ·have HP:=Lib.hid (show Dv r (1+1)=1 from if_pos h7);refine Z.s ?_;clear Z;intro a Z;refine od ?_;refine wp_cond_true (Z.ev 66 rfl) ?_;refine wr ?_;(iterate 2 refine Z.s ?_;clear Z;intro a Z);refine od ?_;refine wr ?_;refine og fun K hK =>?_
        have e58:=Z.g 58;have hww:=Bf 1 (by omega);unfold Oper.wp;go_simp;clear e58;refine Z.K hK ?_;clear Z hK;intro a Z;refine Z.s ?_;clear Z;intro a Z;refine od ?_;show Exists _;exact ⟨n4-1,by omega,1+1,by omega,by rw [HP.out];exact Z.sb,HB,O,R⟩
       ·have HP:=Lib.hid (show Dv r (1+1)=Dv r 1 from if_neg h7);refine Z.s ?_;clear Z;intro a Z;refine od ?_;refine wp_cond_false (Z.ev 66 rfl) ?_;refine wp_skip ?_;refine wr ?_;refine og fun K hK =>?_
        have e58:=Z.g 58;have hww:=Bf 1 (by omega);unfold Oper.wp;go_simp;clear e58;refine Z.K hK ?_;clear Z hK;intro a Z;refine Z.s ?_;clear Z;intro a Z;refine od ?_;show Exists _;exact ⟨n4-1,by omega,1+1,by omega,by rw [HP.out];exact Z.sb,HB,O,R⟩
      ·subst hfe;refine Z.s ?_;clear Z;intro a Z;replace Z:=(show Sl _ 83 ((61, .int .i64 (r 2)) :: _) from Z);(iterate 2 refine Z.s ?_;clear Z;intro a Z);refine od ?_;refine wsr ?_;(iterate 2 refine Z.s ?_;clear Z;intro a Z);refine og fun K hK =>?_
       have e10:=Z.g 10;have e63:=Z.g 63;have q4:(Dv r 2:Int) < 4:=by have:=Fv r (f:=2) (by omega);omega
       unfold Oper.wp;go_simp;clear e10 e63;refine Z.K hK ?_;clear Z hK;intro a Z;refine og fun K hK =>?_
       have e64:=Z.g 64;have c:=R.cell (o:=Dv r 2) (Gq (Fv r (by omega)));unfold Oper.wp;go_simp;clear e64;refine Z.K hK ?_;clear Z hK;intro a Z
       by_cases h7:r 2 > r (Dv r 2)
       ·have HP:=Lib.hid (show Dv r (2+1)=2 from if_pos h7);refine Z.s ?_;clear Z;intro a Z;refine od ?_;refine wp_cond_true (Z.ev 66 rfl) ?_;refine wr ?_;(iterate 2 refine Z.s ?_;clear Z;intro a Z);refine od ?_;refine wr ?_;refine og fun K hK =>?_
        have e58:=Z.g 58;have hww:=Bf 2 (by omega);unfold Oper.wp;go_simp;clear e58;refine Z.K hK ?_;clear Z hK;intro a Z;refine Z.s ?_;clear Z;intro a Z;refine od ?_;show Exists _;exact ⟨n4-1,by omega,2+1,by omega,by rw [HP.out];exact Z.sb,HB,O,R⟩
       ·have HP:=Lib.hid (show Dv r (2+1)=Dv r 2 from if_neg h7);refine Z.s ?_;clear Z;intro a Z;refine od ?_;refine wp_cond_false (Z.ev 66 rfl) ?_;refine wp_skip ?_;refine wr ?_;refine og fun K hK =>?_
        have e58:=Z.g 58;have hww:=Bf 2 (by omega);unfold Oper.wp;go_simp;clear e58;refine Z.K hK ?_;clear Z hK;intro a Z;refine Z.s ?_;clear Z;intro a Z;refine od ?_;show Exists _;exact ⟨n4-1,by omega,2+1,by omega,by rw [HP.out];exact Z.sb,HB,O,R⟩
      ·subst hfe;refine Z.s ?_;clear Z;intro a Z;replace Z:=(show Sl _ 83 ((61, .int .i64 (r 3)) :: _) from Z);(iterate 2 refine Z.s ?_;clear Z;intro a Z);refine od ?_;refine wsr ?_;(iterate 2 refine Z.s ?_;clear Z;intro a Z);refine og fun K hK =>?_
       have e10:=Z.g 10;have e63:=Z.g 63;have q4:(Dv r 3:Int) < 4:=by have:=Fv r (f:=3) (by omega);omega
       unfold Oper.wp;go_simp;clear e10 e63;refine Z.K hK ?_;clear Z hK;intro a Z;refine og fun K hK =>?_
       have e64:=Z.g 64;have c:=R.cell (o:=Dv r 3) (Gq (Fv r (by omega)));unfold Oper.wp;go_simp;clear e64;refine Z.K hK ?_;clear Z hK;intro a Z
       by_cases h7:r 3 > r (Dv r 3)
       ·have HP:=Lib.hid (show Dv r (3+1)=3 from if_pos h7);refine Z.s ?_;clear Z;intro a Z;refine od ?_;refine wp_cond_true (Z.ev 66 rfl) ?_;refine wr ?_;(iterate 2 refine Z.s ?_;clear Z;intro a Z);refine od ?_;refine wr ?_;refine og fun K hK =>?_
        have e58:=Z.g 58;have hww:=Bf 3 (by omega);unfold Oper.wp;go_simp;clear e58;refine Z.K hK ?_;clear Z hK;intro a Z;refine Z.s ?_;clear Z;intro a Z;refine od ?_;show Exists _;exact ⟨n4-1,by omega,3+1,by omega,by rw [HP.out];exact Z.sb,HB,O,R⟩
       ·have HP:=Lib.hid (show Dv r (3+1)=Dv r 3 from if_neg h7);refine Z.s ?_;clear Z;intro a Z;refine od ?_;refine wp_cond_false (Z.ev 66 rfl) ?_;refine wp_skip ?_;refine wr ?_;refine og fun K hK =>?_
        have e58:=Z.g 58;have hww:=Bf 3 (by omega);unfold Oper.wp;go_simp;clear e58;refine Z.K hK ?_;clear Z hK;intro a Z;refine Z.s ?_;clear Z;intro a Z;refine od ?_;show Exists _;exact ⟨n4-1,by omega,3+1,by omega,by rw [HP.out];exact Z.sb,HB,O,R⟩
     ·obtain rfl:f=4:=by omega
      refine Z.s ?_;clear Z;intro a Z;refine od ?_;refine wp_seq ?_;refine wp_cond_false (Z.ev 59 rfl) ?_;refine wp_exit ?_
      try simp only [Exit.then,Exit.inBlock,↓reduceIte,Nat.reduceEqDiff]
      obtain ⟨m,hm⟩:∃ m,m=Dv r 4:=⟨_,rfl⟩;have hm4:m < 4:=by rw [hm];exact Fv r (Nat.le_refl _)
      rw [← hm] at Z;replace HST:=Lib.hid (show EM p0 (i+1)=(upd r m (r m-200),upd o4 m (o4 m+1)) from by rw [HST.out,hm];rfl);clear hm;refine wsr ?_;refine Z.s ?_;clear Z;intro a Z;refine og fun K hK =>?_
      have e10:=Z.g 10;have e69:=Z.g 69;have q4:(m:Int) < 4:=by omega
      unfold Oper.wp;go_simp;clear e10 e69;refine Z.K hK ?_;clear Z hK;intro a Z;refine og fun K hK =>?_
      have e70:=Z.g 70;have c:=R.cell (o:=m) (Gq hm4);unfold Oper.wp;go_simp;clear e70;refine Z.K hK ?_;clear Z hK;intro a Z;refine og fun K hK =>?_
      have e71:=Z.g 71;have hww:IntKind.i64.wrap (r m-200)=r m-200:=IntWalk.i64_in _ (by have:=hrb m;omega);unfold Oper.wp;go_simp;clear e71;refine Z.K hK ?_;clear Z hK;intro a Z;refine og fun K hK =>?_
      have e10:=Z.g 10;have e69:=Z.g 69;have q4:(m:Int) < 4:=by omega
      unfold Oper.wp;go_simp;clear e10 e69;refine Z.K hK ?_;clear Z hK;intro a Z;refine og fun K hK =>?_
      have e72:=Z.g 72;have e73:=Z.g 73;have c:=R.cell (o:=m) (Gq hm4);have z:=R.fz m;unfold Oper.wp;go_simp;clear e72 e73;refine hK _ _ ?_;clear hK;replace R:=R.set m (.int .i64 (r m-200));rw [Tv hm4] at R;replace O:=O.far (g:=br) (by omega) m (.int .i64 (r m-200));replace HB:=HB.setCell (p:=⟨br,m,none⟩) (by show x0.heap.size≤br;omega) (.int .i64 (r m-200));clear c z;obtain ⟨x,hx2⟩:∃ q,q=x.setCell ⟨br,m,none⟩ (.int .i64 (r m-200)):=⟨_,rfl⟩;rw [← hx2] at R O HB ⊢;clear hx2;refine od ?_;refine wr ?_;(iterate 2 refine Z.s ?_;clear Z;intro a Z);refine og fun K hK =>?_
      have e74:=Z.g 74;have e75:=Z.g 75;have q4:(m:Int) < 4:=by omega
      unfold Oper.wp;go_simp;clear e74 e75;refine Z.K hK ?_;clear Z hK;intro a Z;refine og fun K hK =>?_
      have e76:=Z.g 76;have c:=O.cell (o:=m) (Gq hm4);unfold Oper.wp;go_simp;clear e76;refine Z.K hK ?_;clear Z hK;intro a Z;refine og fun K hK =>?_
      have e77:=Z.g 77;have hww:IntKind.i64.wrap (o4 m+1)=o4 m+1:=IntWalk.i64_in _ (by have:=hob m;omega);unfold Oper.wp;go_simp;clear e77;refine Z.K hK ?_;clear Z hK;intro a Z;refine og fun K hK =>?_
      have e74:=Z.g 74;have e75:=Z.g 75;have q4:(m:Int) < 4:=by omega
      unfold Oper.wp;go_simp;clear e74 e75;refine Z.K hK ?_;clear Z hK;intro a Z;refine og fun K hK =>?_
      have e78:=Z.g 78;have e79:=Z.g 79;have c:=O.cell (o:=m) (Gq hm4);have z:=O.fz m;unfold Oper.wp;go_simp;clear e78 e79;refine hK _ _ ?_;clear hK;replace O:=O.set m (.int .i64 (o4 m+1));rw [Tv hm4] at O;replace R:=R.far (g:=bo) (by omega) m (.int .i64 (o4 m+1));replace HB:=HB.setCell (p:=⟨bo,m,none⟩) (by show x0.heap.size≤bo;omega) (.int .i64 (o4 m+1));clear c z;refine od ?_;refine wr ?_;refine og fun K hK =>?_
      have e55:=Z.g 55;have hww:IntKind.i64.wrap ((i:Int)+1)=((i+1:Nat):Int):=by rw [IntWalk.i64_in _ (by omega)];simp
      unfold Oper.wp;go_simp;clear e55;refine Z.K hK ?_;clear Z hK;intro a Z;refine Z.s ?_;clear Z;intro a Z;refine od ?_;show Exists _;exact ⟨n3-1,by omega,i+1,by omega,Z.sb,HB,(by rw [HST.out];exact O),(by rw [HST.out];exact R)⟩
    ·obtain rfl:i=D:=by omega
     refine Z.s ?_;clear Z;intro a Z;refine od ?_;refine wp_seq ?_;refine wp_cond_false (Z.ev 56 rfl) ?_;refine wp_exit ?_
     try simp only [Exit.then,Exit.inBlock,↓reduceIte,Nat.reduceEqDiff]
     rw [HNX.out] at O;refine wr ?_;refine og fun K hK =>?_
     have e29:=Z.g 29;have hww:=Bf k (by omega);unfold Oper.wp;go_simp;clear e29;refine Z.K hK ?_;clear Z hK;intro a Z;refine Z.s ?_;clear Z;intro a Z;refine od ?_;show Exists _;exact ⟨n-1,by omega,k+1,by omega,Z.sb,HB,O⟩
  ·obtain rfl:k=t.Ad.length:=by omega
   refine Z.s ?_;clear Z;intro a Z;refine od ?_;refine wp_seq ?_;refine wp_cond_false (Z.ev 30 rfl) ?_;refine wp_exit ?_;refine wsr ?_;(iterate 3 refine Z.s ?_;clear Z;intro a Z);refine od ?_;refine wp_ret ?_
   try simp only [Exit.then,Exit.inBlock]
   refine bodyPost_ret (v := .tuple #[.slice (some ⟨bo,0,none⟩) 4 4, .int .i64 0]) ?_ Z.defers ⟨(hI0.keep HB).below,fun h=>absurd HE.out h,fun _=>⟨bo,rfl,by omega,O⟩⟩;simp [results,Try.results31,Z.get 4 _ rfl,Z.get 5 _ rfl]
 ·obtain rfl:=hN h1;have HE:=Lib.hid h1;have hne:=C9 h1;clear hS hN hb2 hxx h1;refine Z.K hK ?_;clear Z hK;intro a Z;obtain ⟨x,hx2⟩:∃ x,x=x2:=⟨_,rfl⟩;rw [← hx2] at hI ⊢;clear hx2;(iterate 5 refine Z.s ?_;clear Z;intro a Z);refine od ?_;refine wp_seq ?_;refine wsr ?_;(iterate 2 refine Z.s ?_;clear Z;intro a Z);refine od ?_;refine wp_cond_true (Z.ev 23 rfl) ?_;refine wsr ?_;(iterate 3 refine Z.s ?_;clear Z;intro a Z);refine od ?_;refine wp_ret ?_
  try simp only [Exit.then,Exit.inBlock]
  refine bodyPost_ret (v := .tuple #[.slice none 0 0, .int .i64 (Ea t l)]) ?_ Z.defers ⟨hI.below,fun _=>rfl,fun h=>absurd h HE.out⟩;simp [results,Try.results31,Z.get 4 _ rfl,Z.get 5 _ rfl]
end
end Go.Proofs.Ytgdobbcjkiapkaa
