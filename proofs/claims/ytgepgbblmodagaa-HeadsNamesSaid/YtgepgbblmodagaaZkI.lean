/- Layer 1: the program's writers. -/
import Derived.Test.YtgepgbblmodagaaZkB
import Derived.Test.YtgepgbblmodagaaProg
import Derived.Test.YtgepgbblmodagaaZkA
import Derived.Test.YtgepgbblmodagaaZqT
set_option linter.unusedSimpArgs false
set_option linter.unusedVariables false
set_option maxRecDepth 20000
namespace Go.Zt
open Go Go.Sim Go.Proofs Go.RowKit
theorem numb_upd {f g:Nat→Nat} {a r:Nat}:∀ {n:Nat},r<n→(∀ i,i<n→i≠r→g (a+i)=f (a+i))→f (a+r)=0→numb g a n=numb f a n+g (a+r)*2 ^ (n - 1 - r)
  | 0,h,_,_=>by omega
  | n+1,h,hg,hf=>by
    by_cases hr:r=n
    · subst hr
      rw [numb,numb,hf,numb_ext (f:=g) (g:=f) (a:=a) (a':=a) (n:=r) fun i hi=>hg i (by omega) (by omega),show r+1 - 1 - r=0 by omega]
      omega
    · have ih:=numb_upd (f:=f) (g:=g) (a:=a) (r:=r) (n:=n) (by omega) (fun i hi hne=>hg i (by omega) hne) hf
      rw [numb,numb,ih,hg n (by omega) (fun h=>hr h.symm),show n+1 - 1 - r=(n - 1 - r)+1 by omega,Nat.pow_succ]
      have:g (a+r)*(2 ^ (n - 1 - r)*2)=2*(g (a+r)*2 ^ (n - 1 - r)):=by rw [← Nat.mul_assoc,Nat.mul_comm _ 2]
      rw [this]; omega
theorem numb_pad {f:Nat→Nat} {a r:Nat}:∀ {s:Nat},(∀ i,i<s→f (a+r+i)=0)→numb f a (r+s)=2 ^ s*numb f a r
  | 0,_=>by simp
  | s+1,h=>by
    have h1:=h s (by omega)
    rw [← Nat.add_assoc,numb,numb_pad (s:=s) fun i hi=>h i (by omega),show a+(r+s)=a+r+s by omega,h1,Nat.pow_succ]
    rw [Nat.mul_comm (2 ^ s) 2,Nat.mul_assoc]; rfl
theorem bitL_snoc (w:List Nat) (x i:Nat):bitL (w ++ [x]) i=if i=w.length then x else bitL w i:=by
  unfold bitL
  simp only [List.getD_eq_getElem?_getD]
  by_cases h:i=w.length
  · subst h; simp
  · rw [if_neg h]
    by_cases h2:i<w.length
    · rw [List.getElem?_append_left h2]
    · rw [List.getElem?_eq_none (by simp; omega),List.getElem?_eq_none (by omega)]
theorem bitL_out {w:List Nat} {i:Nat} (h:w.length≤i):bitL w i=0:=by
  unfold bitL; simp [List.getD_eq_getElem?_getD,List.getElem?_eq_none h]
theorem gbyte_old (w:List Nat) (x:Nat) {q:Nat} (h:q≠w.length / 8):gbyte (w ++ [x]) q=gbyte w q:=by
  unfold gbyte
  refine numb_ext fun k hk=>?_
  rw [bitL_snoc,if_neg (by omega)]
theorem gbyte_new (w:List Nat) (x:Nat):gbyte (w ++ [x]) (w.length / 8)=gbyte w (w.length / 8)+x*2 ^ (7 - w.length % 8):=by
  unfold gbyte
  have:=numb_upd (f:=bitL w) (g:=bitL (w ++ [x])) (a:=8*(w.length / 8)) (r:=w.length % 8) (n:=8) (by omega) (fun i hi hne=>by rw [bitL_snoc,if_neg (by omega)]) (bitL_out (by omega))
  rw [this,bitL_snoc,if_pos (by omega)]
theorem gbyte_dvd (w:List Nat):2 ^ (8 - w.length % 8) ∣ gbyte w (w.length / 8):=by
  unfold gbyte
  have:=numb_pad (f:=bitL w) (a:=8*(w.length / 8)) (r:=w.length % 8) (s:=8 - w.length % 8) fun i hi=>bitL_out (by omega)
  rw [show w.length % 8+(8 - w.length % 8)=8 by omega] at this
  rw [this]; exact ⟨_,rfl⟩
theorem pack_snoc0 {w:List Nat} {x:Nat} (h:w.length % 8=0):pack (w ++ [x])=pack w ++ [x*128]:=by
  have hz:gbyte w (w.length / 8)=0:=by
    unfold gbyte
    exact numb_zero.2 fun i hi=>bitL_out (by omega)
  unfold pack
  rw [List.length_append,List.length_singleton,show (w.length+1+7) / 8=w.length / 8+1 by omega,show (w.length+7) / 8=w.length / 8 by omega,List.range_succ,List.map_append,List.map_singleton,gbyte_new,hz,h,Nat.zero_add]
  congr 1
  exact List.map_congr_left fun q hq=>gbyte_old w x (by have:=List.mem_range.1 hq; omega)
theorem pack_snoc {w:List Nat} {x:Nat} (h:w.length % 8≠0):pack (w ++ [x])=(pack w).set (w.length / 8) (gbyte w (w.length / 8)+x*2 ^ (7 - w.length % 8)):=by
  apply List.ext_getElem?
  intro i
  rw [List.getElem?_set]
  unfold pack
  rw [List.length_append,List.length_singleton,show (w.length+1+7) / 8=(w.length+7) / 8 by omega,List.length_map,List.length_range,List.getElem?_map,List.getElem?_map]
  by_cases hi:i<(w.length+7) / 8
  · rw [List.getElem?_range hi]
    by_cases he:w.length / 8=i
    · subst he; rw [if_pos rfl,if_pos hi,Option.map_some,gbyte_new]
    · rw [if_neg he,Option.map_some,Option.map_some,gbyte_old w x (fun e=>he e.symm)]
  · rw [List.getElem?_eq_none (l:=List.range ((w.length+7) / 8)) (by simp; omega),if_neg (by omega)]
    rfl
theorem pack_last {w:List Nat} (h:w.length % 8≠0):(pack w)[w.length / 8]?=some (gbyte w (w.length / 8)):=by
  unfold pack
  rw [List.getElem?_map,List.getElem?_range (by omega)]; rfl
def bitsN (v:Nat):Nat→List Nat
  | 0=>[]
  | n+1=>v / 2 ^ n % 2::bitsN v n
theorem bitsN_len (v:Nat):∀ n,(bitsN v n).length=n
  | 0=>rfl
  | n+1=>by simp [bitsN,bitsN_len v n]
theorem bin_append {a b:List Nat} (ha:Bin a) (hb:Bin b):Bin (a ++ b):=fun x h=>(List.mem_append.1 h).elim (ha x) (hb x)
structure Fl (S:Nat→Prop) (M:Mem) (j:Nat):Prop where
  fl:∀ i,S i∨i=j→M.floor≤i
  nw:∀ i,M.nb.size≤i→S i
theorem Fl.chg {S T:Nat→Prop} {M M':Mem} {j:Nat} (h:Fl S M j) (k:Chg T M M'):Fl S M' j:=⟨fun i hi=>by rw [k.floor]; exact h.fl i hi,fun i hi=>h.nw i (Nat.le_trans k.size hi)⟩
structure Wr (S:Nat→Prop) (M:Mem) (j:Nat) (w:List Nat):Prop where
  out:¬ S j
  bin:Bin w
  len:w.length≤100000000000
  ex:∃ A c,M.nb[j]?=some (.cells #[.slice A ((w.length+7) / 8) c,.int .i64 (((8 - w.length % 8) % 8:Nat):Int),.bool true] 73)∧Own S M 5 A c (U8 (pack w))∧(w.length+7) / 8≤c
theorem Wr.chg {S:Nat→Prop} {T:Nat→Prop} {M M':Mem} {j:Nat} {w:List Nat} (h:Wr S M j w) (k:Chg T M M') (hT:∀ i,i<M.nb.size→S i∨i=j→¬ T i):Wr S M' j w:=by
  obtain ⟨A,c,h1,h2,h3⟩:=h.ex
  exact ⟨h.out,h.bin,h.len,A,c,at_chg h1 k (hT j (lt_of_at h1) (.inr rfl)),h2.chg k fun i hi hs=>hT i hi (.inl hs),h3⟩
theorem Wr.keep {S:Nat→Prop} {M M':Mem} {j:Nat} {w:List Nat} (h:Wr S M j w) (k:Keep M M'):Wr S M' j w:=h.chg k fun _ _ _ x=>x
theorem Wr.there {S:Nat→Prop} {M:Mem} {j:Nat} {w:List Nat} (h:Wr S M j w):Cn Try.prog 46 #[PtrB j] M fun v N=>v=.bool true∧N=M:=by
  obtain ⟨A,c,h1,h2,h3⟩:=h.ex
  exact w46_0 ⟨fun _=>⟨_,rfl,_,bool_of h1 rfl,rfl,rfl⟩,fun h=>absurd h (by simp)⟩
theorem shl_u8 {x q:Nat} {z:Int} (hz:z=(q:Int)) (h:x*2 ^ q<256) (hq:q≤8):binV Try.prog .shl 5 3 (.int .u8 (x:Int)) (.int .i64 z)=some (.int .u8 ((x*2 ^ q:Nat):Int)):=shl_nat (k:=.u8) rfl hz h hq
theorem c48_loop {S:Nat→Prop} {j:Nat} {M0:Mem} (hf0:Fl S M0 j) {v:Nat} (hv:v<18446744073709551616) {Q:Value→Mem→Prop} {wEnd:List Nat} (hQ:∀ N,Chg (fun i=>S i∨i=j) M0 N→Wr S N j wEnd→Q (.tuple #[]) N):
    ∀ (n:Nat) (w:List Nat) {M:Mem},n≤64→Chg (fun i=>S i∨i=j) M0 M→Wr S M j w→w.length+n≤90000000000→w ++ bitsN v n=wEnd→A48_1 (some ⟨2*j,0,none⟩) v ((n:Int) - 1) M Q
  | 0,w,M,hn,K,h,hl,he=>by
    refine w48_1 ⟨fun h=>absurd h (by omega),fun _=>hQ M K (by rw [← he,bitsN,List.append_nil]; exact h)⟩
  | n+1,w,M,hn,K,h,hl,he=>by
    obtain ⟨A,c,g1,g2,g3⟩:=h.ex
    have hjl:=lt_of_at g1
    have hf:=hf0.chg K
    have hfj:M.floor≤j:=hf.fl j (.inr rfl)
    have en:(((n+1:Nat):Int) - 1)=(n:Int):=by omega
    rw [en]
    have hx:v / 2 ^ n % 2<2:=Nat.mod_lt _ (by decide)
    have e1:IntKind.u8.wrap (IntKind.u64.wrap (((BitVec.ofInt (IntKind.bits .u64) ((v / 2 ^ n:Nat):Int) &&& BitVec.ofInt (IntKind.bits .u64) 1).toNat:Nat):Int))=((v / 2 ^ n % 2:Nat):Int):=by
      have hd:v / 2 ^ n<2 ^ 64:=Nat.lt_of_le_of_lt (Nat.div_le_self _ _) hv
      rw [and_mask (k:=.u64) rfl (m:=1) (c:=1) rfl (by decide) hd]
      generalize v / 2 ^ n=y
      exact u8w (by omega)
    have e0:binV Try.prog .shr 86 3 (.int .u64 (v:Int)) (.int .i64 (n:Int))=some (.int .u64 ((v / 2 ^ n:Nat):Int)):=shr_nat (k:=.u64) rfl (show n≤64 by omega)
    generalize hxe:v / 2 ^ n % 2=x at hx e1
    have hw':Bin (w ++ [x]):=bin_append h.bin fun y hy=>by simp at hy; omega
    have next:∀ M',Chg (fun i=>S i∨i=j) M M'→Wr S M' j (w ++ [x])→A48_1 (some ⟨2*j,0,none⟩) v ((n:Int) - 1) M' Q:=fun M' hC hW=>
      c48_loop hf0 hv hQ n (w ++ [x]) (by omega) (K.trans hC) hW (by simp; omega) (by rw [← he,bitsN,hxe]; simp)
    refine w48_1 ⟨fun _=>⟨_,rfl,_,int_of g1 rfl,fun h0=>?_,fun h0=>?_⟩,fun h=>absurd (show (n:Int) ≥ 0 by omega) h⟩
    · -- a byte more
      have hw0:w.length % 8=0:=by omega
      have hwb:(w.length+7) / 8=w.length / 8:=by omega
      obtain ⟨A',c',M1,p1,p2,p3,p4⟩:=app1S el5 g2 (n:=(w.length+7) / 8) (by simp [pack_len]) (v:=.int .u8 0) (fun i hi=>hf.fl i (.inl hi)) (hf.nw _ (Nat.le_refl _)) (hf.nw _ (Nat.le_succ _)) rfl (by omega)
      have q1:=at_chg g1 p2 h.out
      have hf1:M1.floor≤j:=by rw [p2.floor]; exact hfj
      have hj1:=lt_of_at q1
      have P1:=put_of (i:=0) (v:=.slice A' ((w.length+7) / 8+1) c') q1 hf1 (by simp) rfl
      have q2:=upd_at (M:=M1) (b:=.cells ((#[.slice A ((w.length+7) / 8) c,.int .i64 (((8 - w.length % 8) % 8:Nat):Int),.bool true]:Array Value).setIfInBounds 0 (.slice A' ((w.length+7) / 8+1) c')) 73) hj1
      have P2:=put_of (i:=1) (v:=.int .i64 8) q2 hf1 (by simp) rfl
      have q3:=upd_at (M:=M1.upd j (.cells ((#[.slice A ((w.length+7) / 8) c,.int .i64 (((8 - w.length % 8) % 8:Nat):Int),.bool true]:Array Value).setIfInBounds 0 (.slice A' ((w.length+7) / 8+1) c')) 73))
        (b:=.cells (((#[.slice A ((w.length+7) / 8) c,.int .i64 (((8 - w.length % 8) % 8:Nat):Int),.bool true]:Array Value).setIfInBounds 0 (.slice A' ((w.length+7) / 8+1) c')).setIfInBounds 1 (.int .i64 8)) 73) (by rw [upd_size]; exact hj1)
      have P3:=put_of (i:=1) (v:=.int .i64 (IntKind.i64.wrap (8 - 1))) q3 hf1 (by simp) rfl
      generalize hM2:M1.upd j (.cells ((#[.slice A ((w.length+7) / 8) c,.int .i64 (((8 - w.length % 8) % 8:Nat):Int),.bool true]:Array Value).setIfInBounds 0 (.slice A' ((w.length+7) / 8+1) c')) 73)=M2 at P1 P2 q2 q3 P3
      generalize hM3:M2.upd j (.cells (((#[.slice A ((w.length+7) / 8) c,.int .i64 (((8 - w.length % 8) % 8:Nat):Int),.bool true]:Array Value).setIfInBounds 0 (.slice A' ((w.length+7) / 8+1) c')).setIfInBounds 1 (.int .i64 8)) 73)=M3 at P2 q3 P3
      have C12:Chg (· = j) M1 M2:=by rw [← hM2]; exact upd_chg rfl
      have C23:Chg (· = j) M2 M3:=by rw [← hM3]; exact upd_chg rfl
      have hj3:=lt_of_at q3
      have q4:=upd_at (M:=M3) (b:=.cells ((((#[.slice A ((w.length+7) / 8) c,.int .i64 (((8 - w.length % 8) % 8:Nat):Int),.bool true]:Array Value).setIfInBounds 0 (.slice A' ((w.length+7) / 8+1) c')).setIfInBounds 1 (.int .i64 8)).setIfInBounds 1 (.int .i64 (IntKind.i64.wrap (8 - 1)))) 73) hj3
      have C34:Chg (· = j) M3 (M3.upd j (.cells ((((#[.slice A ((w.length+7) / 8) c,.int .i64 (((8 - w.length % 8) % 8:Nat):Int),.bool true]:Array Value).setIfInBounds 0 (.slice A' ((w.length+7) / 8+1) c')).setIfInBounds 1 (.int .i64 8)).setIfInBounds 1 (.int .i64 (IntKind.i64.wrap (8 - 1)))) 73)):=upd_chg rfl
      generalize hM4:M3.upd j (.cells ((((#[.slice A ((w.length+7) / 8) c,.int .i64 (((8 - w.length % 8) % 8:Nat):Int),.bool true]:Array Value).setIfInBounds 0 (.slice A' ((w.length+7) / 8+1) c')).setIfInBounds 1 (.int .i64 8)).setIfInBounds 1 (.int .i64 (IntKind.i64.wrap (8 - 1)))) 73)=M4 at P3 q4 C34
      have C14:Chg (· = j) M1 M4:=(C12.trans C23).trans C34
      have O4:=p3.chg C14 fun i _ hs he=>h.out (he ▸ hs)
      have hf4:∀ i,S i→M4.floor≤i:=fun i hi=>by rw [C14.floor,p2.floor]; exact hf.fl i (.inl hi)
      have hlast:(U8 (pack w) ++ [Value.int .u8 0])[w.length / 8]?=some (.int .u8 0):=by
        rw [List.getElem?_append_right (by simp [pack_len,hwb])]; simp [pack_len,hwb]
      obtain ⟨a,i1,i2⟩:=O4.row.int1 (n:=(w.length+7) / 8+1) (i:=w.length / 8) (z:=IntKind.i64.wrap ((((w.length+7) / 8+1:Nat):Int) - 1)) (by have:=h.len; rw [i64w (by omega)]; omega) (by omega) hlast
      obtain ⟨a2,i3,M5,P5,C45,hs5,O5⟩:=O4.put1 hf4 (n:=(w.length+7) / 8+1) (i:=w.length / 8) (z:=IntKind.i64.wrap ((((w.length+7) / 8+1:Nat):Int) - 1)) (v:=.int .u8 (x*128:Nat)) (by have:=h.len; rw [i64w (by omega)]; omega) (by omega) (by simp [pack_len]; omega) rfl
      have e7:IntKind.i64.wrap (8 - 1)=((7:Nat):Int):=by decide
      have e8:IntKind.u8.wrap (((BitVec.ofInt (IntKind.bits .u8) 0 ||| BitVec.ofInt (IntKind.bits .u8) ((x*2 ^ 7:Nat):Int)).toNat:Nat):Int)=((x*128:Nat):Int):=by
        have:=or_nat (k:=.u8) rfl (x:=0) (y:=x*2 ^ 7) (by decide) (show x*2 ^ 7<2 ^ 8 by omega)
        rw [Nat.zero_or] at this; exact this
      refine ⟨_,rfl,_,sl_of g1 rfl,_,p1,_,rfl,_,rfl,_,P1,_,rfl,_,P2,_,rfl,_,int_of q3 rfl,_,rfl,_,P3,_,rfl,_,sl_of q4 rfl,_,rfl,_,sl_of q4 rfl,_,i1,_,i2,_,e0,_,rfl,_,rfl,_,int_of q4 rfl,?_⟩
      rw [e1]
      refine ⟨_,shl_u8 (q:=7) e7 (by omega) (by decide),_,rfl,_,i3,?_⟩
      rw [e8,i64w (by omega)]
      refine ⟨_,P5,next M5 (((p2.mono fun i _ hi=>.inl hi).trans (C14.mono fun i _ hi=>.inr hi)).trans (C45.mono fun i _ hi=>.inl hi)) ⟨h.out,hw',by simp; omega,A',c',?_,?_,by simp; omega⟩⟩
      · have:=at_chg q4 C45 h.out
        rw [this]
        congr 2
        simp only [List.length_append,List.length_singleton]
        rw [show (w.length+1+7) / 8=(w.length+7) / 8+1 by omega,show (8 - (w.length+1) % 8) % 8=7 by omega]
        rfl
      · have e9:U8 (pack (w ++ [x]))=(U8 (pack w) ++ [Value.int .u8 0]).set (w.length / 8) (.int .u8 (x*128:Nat)):=by
          rw [pack_snoc0 hw0,List.set_append_right _ _ (by simp [pack_len,hwb])]; simp [pack_len,hwb]
        rw [e9]; exact O5
    · -- in the last byte
      have hw0:w.length % 8≠0:=by omega
      have hwb:(w.length+7) / 8=w.length / 8+1:=by omega
      have P3:=put_of (i:=1) (v:=.int .i64 (IntKind.i64.wrap ((((8 - w.length % 8) % 8:Nat):Int) - 1))) g1 hfj (by simp) rfl
      have q4:=upd_at (M:=M) (b:=.cells ((#[.slice A ((w.length+7) / 8) c,.int .i64 (((8 - w.length % 8) % 8:Nat):Int),.bool true]:Array Value).setIfInBounds 1 (.int .i64 (IntKind.i64.wrap ((((8 - w.length % 8) % 8:Nat):Int) - 1)))) 73) hjl
      have C14:Chg (· = j) M (M.upd j (.cells ((#[.slice A ((w.length+7) / 8) c,.int .i64 (((8 - w.length % 8) % 8:Nat):Int),.bool true]:Array Value).setIfInBounds 1 (.int .i64 (IntKind.i64.wrap ((((8 - w.length % 8) % 8:Nat):Int) - 1)))) 73)):=upd_chg rfl
      generalize hM4:M.upd j (.cells ((#[.slice A ((w.length+7) / 8) c,.int .i64 (((8 - w.length % 8) % 8:Nat):Int),.bool true]:Array Value).setIfInBounds 1 (.int .i64 (IntKind.i64.wrap ((((8 - w.length % 8) % 8:Nat):Int) - 1)))) 73)=M4 at P3 q4 C14
      have O4:=g2.chg C14 fun i _ hs he=>h.out (he ▸ hs)
      have hf4:∀ i,S i→M4.floor≤i:=fun i hi=>by rw [C14.floor]; exact hf.fl i (.inl hi)
      have hlast:(U8 (pack w))[w.length / 8]?=some (.int .u8 (gbyte w (w.length / 8):Nat)):=by
        rw [List.getElem?_map,pack_last hw0]; rfl
      have hyl:=gbyte_lt h.bin (w.length / 8)
      have hyd:=gbyte_dvd w
      have hp7:2 ^ (8 - w.length % 8)=2*2 ^ (7 - w.length % 8):=by rw [show 8 - w.length % 8=(7 - w.length % 8)+1 by omega,Nat.pow_succ,Nat.mul_comm]
      have hp8:2 ^ (7 - w.length % 8)≤64:=Nat.pow_le_pow_right (n:=2) (by decide) (show 7 - w.length % 8≤6 by omega)
      have hxp:x*2 ^ (7 - w.length % 8)<2 ^ (8 - w.length % 8)∧x*2 ^ (7 - w.length % 8)<256:=by
        have:x=0∨x=1:=by omega
        have hpos:=Nat.two_pow_pos (7 - w.length % 8)
        rcases this with rfl | rfl <;> omega
      have hsum:gbyte w (w.length / 8) ||| x*2 ^ (7 - w.length % 8)=gbyte w (w.length / 8)+x*2 ^ (7 - w.length % 8):=or_add hyd hxp.1
      obtain ⟨a,i1,i2⟩:=O4.row.int1 (n:=(w.length+7) / 8) (i:=w.length / 8) (z:=IntKind.i64.wrap ((((w.length+7) / 8:Nat):Int) - 1)) (by have:=h.len; rw [i64w (by omega)]; omega) (by omega) hlast
      obtain ⟨a2,i3,M5,P5,C45,hs5,O5⟩:=O4.put1 hf4 (n:=(w.length+7) / 8) (i:=w.length / 8) (z:=IntKind.i64.wrap ((((w.length+7) / 8:Nat):Int) - 1)) (v:=.int .u8 (gbyte w (w.length / 8)+x*2 ^ (7 - w.length % 8):Nat)) (by have:=h.len; rw [i64w (by omega)]; omega) (by omega) (by simp [pack_len]; omega) rfl
      have e7:IntKind.i64.wrap ((((8 - w.length % 8) % 8:Nat):Int) - 1)=((7 - w.length % 8:Nat):Int):=by rw [i64w (by omega)]; omega
      have e8:IntKind.u8.wrap (((BitVec.ofInt (IntKind.bits .u8) ((gbyte w (w.length / 8):Nat):Int) ||| BitVec.ofInt (IntKind.bits .u8) ((x*2 ^ (7 - w.length % 8):Nat):Int)).toNat:Nat):Int)=((gbyte w (w.length / 8)+x*2 ^ (7 - w.length % 8):Nat):Int):=by
        rw [or_nat (k:=.u8) rfl (show _<2 ^ 8 by omega) (show _<2 ^ 8 by have:=hxp.2; omega),hsum]
      refine ⟨_,rfl,_,int_of g1 rfl,_,rfl,_,P3,_,rfl,_,sl_of q4 rfl,_,rfl,_,sl_of q4 rfl,_,i1,_,i2,_,e0,_,rfl,_,rfl,_,int_of q4 rfl,?_⟩
      rw [e1]
      refine ⟨_,shl_u8 (q:=7 - w.length % 8) e7 hxp.2 (by omega),_,rfl,_,i3,?_⟩
      rw [e8,i64w (by omega)]
      refine ⟨_,P5,next M5 ((C14.mono fun i _ hi=>.inr hi).trans (C45.mono fun i _ hi=>.inl hi)) ⟨h.out,hw',by simp; omega,A,c,?_,?_,by simp; omega⟩⟩
      · have:=at_chg q4 C45 h.out
        rw [this]
        congr 2
        simp only [List.length_append,List.length_singleton]
        rw [show (w.length+1+7) / 8=(w.length+7) / 8 by omega,show (8 - (w.length+1) % 8) % 8=7 - w.length % 8 by omega,e7]
        rfl
      · have e9:U8 (pack (w ++ [x]))=(U8 (pack w)).set (w.length / 8) (.int .u8 (gbyte w (w.length / 8)+x*2 ^ (7 - w.length % 8):Nat)):=by
          rw [pack_snoc hw0]; exact (List.map_set ..)
        rw [e9]; exact O5
theorem c48 {S:Nat→Prop} {j:Nat} {M:Mem} {w:List Nat} (hf:Fl S M j) (h:Wr S M j w) {v n:Nat} {y z:Int} (hy:y=(v:Int)) (hz:z=(n:Int)) (hv:v<18446744073709551616) (hn:n≤64) (hl:w.length+n≤90000000000):
    Cn Try.prog 48 #[PtrB j,.int .u64 y,.int .i64 z] M fun u N=>u=.tuple #[]∧Chg (fun i=>S i∨i=j) M N∧Wr S N j (w ++ bitsN v n):=by
  subst hy hz
  refine w48_0 ?_
  rw [i64w (by omega)]
  exact c48_loop hf hv (fun N hC hW=>⟨rfl,hC,hW⟩) n w hn (.refl _) h hl rfl
end Go.Zt

/- Layer 1: the program's writers' calls; the document's writers. -/
set_option linter.unusedSimpArgs false
set_option linter.unusedVariables false
set_option maxRecDepth 20000
namespace Go.Zt
open Go Go.Sim Go.Proofs Go.RowKit
def blen (n:Nat):Nat:=if n=0 then 0 else Nat.log2 n+1
theorem blen_le {n k:Nat}:blen n≤k↔n<2 ^ k:=by
  unfold blen
  by_cases h:n=0
  · subst h; simp [Nat.two_pow_pos]
  · rw [if_neg h,Nat.succ_le_iff,Nat.log2_lt h]
theorem blen_shift {n k:Nat} (h:2 ^ k≤n):blen n=k+blen (n / 2 ^ k):=by
  apply Nat.le_antisymm
  · rw [blen_le,Nat.pow_add,Nat.mul_comm]
    have h1:n / 2 ^ k<2 ^ blen (n / 2 ^ k):=blen_le.1 (Nat.le_refl _)
    exact (Nat.div_lt_iff_lt_mul (Nat.two_pow_pos k)).1 h1
  · have h0:1≤n / 2 ^ k:=(Nat.le_div_iff_mul_le (Nat.two_pow_pos k)).2 (by omega)
    have h1:n<2 ^ blen n:=blen_le.1 (Nat.le_refl _)
    have hk:k≤blen n:=by
      rcases Nat.lt_or_ge (blen n) k with h2 | h2
      · have:2 ^ blen n≤2 ^ k:=Nat.pow_le_pow_right (by decide) (by omega)
        omega
      · exact h2
    have h2:blen (n / 2 ^ k)≤blen n - k:=by
      rw [blen_le]
      have e:2 ^ blen n=2 ^ (blen n - k)*2 ^ k:=by rw [← Nat.pow_add]; congr 1; omega
      rw [e] at h1
      exact (Nat.div_lt_iff_lt_mul (Nat.two_pow_pos k)).2 h1
    omega
noncomputable def okTab (x:Nat):Bool:=match strV Try.prog 9 (.string str0) (.int .u8 (x:Int)) with | some (.int .u8 y)=>y == (blen x:Nat) | _=>false
theorem tab_all:(List.range 256).all okTab=true:=by kernel_rfl
theorem tab {x:Nat} {z:Int} (hz:z=(x:Int)) (h:x<256):strV Try.prog 9 (.string str0) (.int .u8 z)=some (.int .u8 (blen x:Nat)):=by
  subst hz
  have:=List.all_eq_true.1 tab_all x (List.mem_range.2 h)
  unfold okTab at this
  split at this
  · rename_i y hy; rw [hy,eq_of_beq this]
  · cases this
theorem blen8 {x:Nat} (h:x<256):blen x≤8:=blen_le.2 (by simpa using h)
theorem c47 {M:Mem} {x:Nat} {z:Int} (hz:z=(x:Int)) (h:x<4294967296):Cn Try.prog 47 #[.int .u32 z] M fun v N=>v=.int .i64 (blen x:Nat)∧N=M:=by
  subst hz
  have f16:((x:Int)).fdiv (2 ^ 16)=((x / 65536:Nat):Int):=fdivN x 65536
  have f8:((x:Int)).fdiv (2 ^ 8)=((x / 256:Nat):Int):=fdivN x 256
  have f24:(((x / 65536:Nat):Int)).fdiv (2 ^ 8)=((x / 65536 / 256:Nat):Int):=fdivN (x / 65536) 256
  refine w47_0 ?_
  rw [f16,f8,f24]
  refine ⟨fun h1=>⟨fun h2=>?_,fun h2=>?_⟩,fun h1=>⟨fun h2=>?_,fun h2=>?_⟩⟩
  · have hb:=blen8 (x:=x / 65536 / 256) (by omega)
    refine ⟨_,tab (x:=x / 65536 / 256) (u8w (by omega)) (by omega),_,rfl,?_,rfl⟩
    rw [i64w (x:=((blen (x / 65536 / 256):Nat):Int)) (by omega),i64w (x:=16+8) (by decide),i64w (by omega),blen_shift (n:=x) (k:=16) (by omega),blen_shift (n:=x / 2 ^ 16) (k:=8) (by simp; omega)]
    simp only [Nat.reducePow]; congr 1 <;> omega
  · have hb:=blen8 (x:=x / 65536) (by omega)
    refine ⟨_,tab (x:=x / 65536) (u8w (by omega)) (by omega),_,rfl,?_,rfl⟩
    rw [i64w (x:=((blen (x / 65536):Nat):Int)) (by omega),i64w (by omega),blen_shift (n:=x) (k:=16) (by omega)]
    simp only [Nat.reducePow]; congr 1 <;> omega
  · have hb:=blen8 (x:=x / 256) (by omega)
    refine ⟨_,tab (x:=x / 256) (u8w (by omega)) (by omega),_,rfl,?_,rfl⟩
    rw [i64w (x:=((blen (x / 256):Nat):Int)) (by omega),i64w (x:=0+8) (by decide),i64w (by omega),blen_shift (n:=x) (k:=8) (by omega)]
    simp only [Nat.reducePow]; congr 1 <;> omega
  · have hb:=blen8 (x:=x) (by omega)
    refine ⟨_,tab (x:=x) (u8w (by omega)) (by omega),_,rfl,?_,rfl⟩
    rw [i64w (x:=((blen x:Nat):Int)) (by omega),i64w (by omega)]
    congr 1; omega
theorem c72 {M:Mem} {x:Nat} {z:Int} (hz:z=(x:Int)) (h:x<4294967296):Cn Try.prog 72 #[.int .u64 z] M fun v N=>v=.int .i64 (blen x:Nat)∧N=M:=by
  subst hz
  have f16:((x:Int)).fdiv (2 ^ 16)=((x / 65536:Nat):Int):=fdivN x 65536
  have f8:((x:Int)).fdiv (2 ^ 8)=((x / 256:Nat):Int):=fdivN x 256
  have f24:(((x / 65536:Nat):Int)).fdiv (2 ^ 8)=((x / 65536 / 256:Nat):Int):=fdivN (x / 65536) 256
  refine w72_0 ⟨fun h0=>absurd h0 (by omega),fun _=>?_⟩
  rw [f16,f8,f24]
  refine ⟨fun h1=>⟨fun h2=>?_,fun h2=>?_⟩,fun h1=>⟨fun h2=>?_,fun h2=>?_⟩⟩
  · have hb:=blen8 (x:=x / 65536 / 256) (by omega)
    refine ⟨_,tab (x:=x / 65536 / 256) (u8w (by omega)) (by omega),_,rfl,?_,rfl⟩
    rw [i64w (x:=((blen (x / 65536 / 256):Nat):Int)) (by omega),i64w (x:=0+16) (by decide),i64w (x:=0+16+8) (by decide),i64w (by omega),blen_shift (n:=x) (k:=16) (by omega),blen_shift (n:=x / 2 ^ 16) (k:=8) (by simp; omega)]
    simp only [Nat.reducePow]; congr 1 <;> omega
  · have hb:=blen8 (x:=x / 65536) (by omega)
    refine ⟨_,tab (x:=x / 65536) (u8w (by omega)) (by omega),_,rfl,?_,rfl⟩
    rw [i64w (x:=((blen (x / 65536):Nat):Int)) (by omega),i64w (x:=0+16) (by decide),i64w (by omega),blen_shift (n:=x) (k:=16) (by omega)]
    simp only [Nat.reducePow]; congr 1 <;> omega
  · have hb:=blen8 (x:=x / 256) (by omega)
    refine ⟨_,tab (x:=x / 256) (u8w (by omega)) (by omega),_,rfl,?_,rfl⟩
    rw [i64w (x:=((blen (x / 256):Nat):Int)) (by omega),i64w (x:=0+8) (by decide),i64w (by omega),blen_shift (n:=x) (k:=8) (by omega)]
    simp only [Nat.reducePow]; congr 1 <;> omega
  · have hb:=blen8 (x:=x) (by omega)
    refine ⟨_,tab (x:=x) (u8w (by omega)) (by omega),_,rfl,?_,rfl⟩
    rw [i64w (x:=((blen x:Nat):Int)) (by omega),i64w (by omega)]
    congr 1; omega
def wFixed (w:List Nat) (v:Nat) (n:Int):Nat × List Nat:=
  if n<0∨n > 32∨v ≥ 2 ^ n.toNat then (2,w) else (0,w ++ bitsN v n.toNat)
def wSigned (w:List Nat) (v n:Int):Nat × List Nat:=
  if n<1∨n > 31∨v.natAbs ≥ 2 ^ n.toNat then (2,w) else (0,w ++ (if v<0 then 1 else 0)::bitsN v.natAbs n.toNat)
theorem bitsN_mod (v:Nat):∀ {n k:Nat},n≤k→bitsN (v % 2 ^ k) n=bitsN v n
  | 0,_,_=>rfl
  | n+1,k,h=>by
    rw [bitsN,bitsN,bitsN_mod v (by omega)]
    congr 1
    rw [show k=n+(k - n - 1+1) by omega,Nat.pow_add,Nat.mod_mul_right_div_self,Nat.pow_succ,Nat.mul_comm,Nat.mod_mul_right_mod]
section
variable {S:Nat→Prop} {j:Nat} {M:Mem} {w:List Nat}
def WrR (S:Nat→Prop) (M:Mem) (j:Nat) (r:Nat × List Nat):Value→Mem→Prop:=fun u N=>u=.int .i64 (r.1:Nat)∧Chg (fun i=>S i∨i=j) M N∧Wr S N j r.2
theorem c22 (hf:Fl S M j) (h:Wr S M j w) {v:Nat} {y:Int} (hy:y=(v:Int)) (hv:v<4294967296) (n:Int) (hl:w.length≤80000000000):
    Cn Try.prog 22 #[PtrB j,.int .u32 y,.int .i64 n] M (WrR S M j (wFixed w v n)):=by
  subst hy
  have bad:wFixed w v n=(2,w)→A22_1 (some ⟨2*j,0,none⟩) v n true M (WrR S M j (wFixed w v n)):=fun e=>by
    rw [e]; exact w22_1 ⟨fun _=>⟨rfl,.refl _,h⟩,fun h=>(by cases h)⟩
  refine w22_0 (Cn.eq h.there ⟨_,rfl,fun h=>absurd h (by simp),fun _=>⟨fun h1=>bad (by unfold wFixed; rw [if_pos (by omega)]),fun h1=>⟨fun h2=>bad (by unfold wFixed; rw [if_pos (by omega)]),fun h2=>Cn.eq (c47 rfl hv) ⟨_,rfl,?_⟩⟩⟩⟩)
  have hb:=blen_le (n:=v) (k:=n.toNat)
  by_cases hc:((blen v:Nat):Int) > n
  · rw [decide_eq_true hc]
    exact bad (by unfold wFixed; rw [if_pos (.inr (.inr (by
      rcases Nat.lt_or_ge v (2 ^ n.toNat) with h3 | h3
      · have:=hb.2 h3; omega
      · exact h3)))])
  · rw [decide_eq_false hc]
    have hlt:v<2 ^ n.toNat:=hb.1 (by omega)
    have e:wFixed w v n=(0,w ++ bitsN v n.toNat):=by unfold wFixed; rw [if_neg (by omega)]
    refine w22_1 ⟨fun h=>(by cases h),fun _=>Cn.mono (c48 hf h (v:=v) (n:=n.toNat) (u64w (by omega)) (by omega) (by omega) (by omega) (by omega)) ?_⟩
    rintro u N ⟨_,hC,hW⟩
    rw [e]; exact ⟨rfl,hC,hW⟩
theorem c43 (hf:Fl S M j) (h:Wr S M j w) {v:Int} (hv : -2147483648≤v∧v≤2147483647) (n:Int) (hl:w.length≤80000000000):
    Cn Try.prog 43 #[PtrB j,.int .i32 v,.int .i64 n] M (WrR S M j (wSigned w v n)):=by
  have key:∀ (s:Nat) (y:Int),y=(v.natAbs:Nat)→s=(if v<0 then 1 else 0)→∀ b:Bool,(b=true↔(n<1∨n > 31∨v.natAbs ≥ 2 ^ n.toNat))→A43_1 (some ⟨2*j,0,none⟩) n y s b M (WrR S M j (wSigned w v n)):=by
    intro s y hy hs b hb
    subst hy
    refine w43_1 ⟨fun h1=>?_,fun h1=>?_⟩
    · have e:wSigned w v n=(2,w):=by unfold wSigned; rw [if_pos (hb.1 h1)]
      rw [e]; exact ⟨rfl,.refl _,h⟩
    · have hno:¬ (n<1∨n > 31∨v.natAbs ≥ 2 ^ n.toNat):=fun hh=>by rw [hb.2 hh] at h1; cases h1
      have e:wSigned w v n=(0,w ++ (if v<0 then 1 else 0)::bitsN v.natAbs n.toNat):=by unfold wSigned; rw [if_neg hno]
      have hs1:s<2:=by rw [hs]; split <;> decide
      have hp:=Nat.two_pow_pos n.toNat
      have hp31:=pow31 (n:=n.toNat) (by omega)
      have hsn:s*2 ^ n.toNat≤2147483648:=by
        have:s=0∨s=1:=by omega
        rcases this with h | h <;> rw [h] <;> omega
      refine ⟨_,shl_nat (k:=.u64) (x:=s) (q:=n.toNat) rfl (by omega) (show _<2 ^ 64 by omega) (show n.toNat≤64 by omega),_,rfl,?_⟩
      rw [or_nat (k:=.u64) rfl (show _<2 ^ 64 by omega) (show v.natAbs<2 ^ 64 by omega),or_add (k:=n.toNat) ⟨s,Nat.mul_comm _ _⟩ (by omega)]
      refine Cn.mono (c48 hf h (v:=s*2 ^ n.toNat+v.natAbs) (n:=n.toNat+1) rfl (by rw [i64w (by omega)]; omega) (by omega) (by omega) (by omega)) ?_
      rintro u N ⟨_,hC,hW⟩
      rw [e]
      refine ⟨rfl,hC,?_⟩
      have e2:bitsN (s*2 ^ n.toNat+v.natAbs) (n.toNat+1)=(if v<0 then 1 else 0)::bitsN v.natAbs n.toNat:=by
        rw [bitsN]
        congr 1
        · rw [Nat.mul_comm,Nat.mul_add_div hp,Nat.div_eq_of_lt (by omega),Nat.add_zero,Nat.mod_eq_of_lt hs1,hs]
        · rw [← bitsN_mod (s*2 ^ n.toNat+v.natAbs) (Nat.le_refl n.toNat),Nat.mul_comm,Nat.mul_add_mod,Nat.mod_eq_of_lt (by omega)]
      rw [e2] at hW; exact hW
  have hb:=blen_le (n:=v.natAbs) (k:=n.toNat)
  have hdec:¬ n<1→¬ n > 31→(decide (((blen v.natAbs:Nat):Int) > n)=true↔(n<1∨n > 31∨v.natAbs ≥ 2 ^ n.toNat)):=by
    intro h1 h2
    rw [decide_eq_true_eq]
    constructor
    · intro h3
      rcases Nat.lt_or_ge v.natAbs (2 ^ n.toNat) with h4 | h4
      · have:=hb.2 h4; omega
      · exact .inr (.inr h4)
    · rintro (h3 | h3 | h3)
      · omega
      · omega
      · rcases Nat.lt_or_ge n.toNat (blen v.natAbs) with h4 | h4
        · omega
        · have:=hb.1 h4; omega
  have hvi:IntKind.i64.wrap v=v:=i64w (by omega)
  refine w43_0 (Cn.eq h.there ⟨_,rfl,fun h=>absurd h (by simp),fun _=>⟨fun h0=>?_,fun h0=>?_⟩⟩)
  · rw [hvi,i64w (x:=0 - v) (by omega)]
    have ey:IntKind.u64.wrap (0 - v)=((v.natAbs:Nat):Int):=by rw [u64w (by omega)]; omega
    rw [ey]
    have es:(1:Nat)=if v<0 then 1 else 0:=by rw [if_pos h0]
    refine ⟨fun h1=>key 1 _ rfl es true (by simp; omega),fun h1=>⟨fun h2=>key 1 _ rfl es true (by simp; omega),fun h2=>Cn.eq (c72 (x:=v.natAbs) rfl (by omega)) ⟨_,rfl,key 1 _ rfl es _ (hdec h1 h2)⟩⟩⟩
  · have ey:IntKind.u64.wrap v=((v.natAbs:Nat):Int):=by rw [u64w (by omega)]; omega
    rw [ey]
    have es:(0:Nat)=if v<0 then 1 else 0:=by rw [if_neg h0]
    refine ⟨fun h1=>key 0 _ rfl es true (by simp; omega),fun h1=>⟨fun h2=>key 0 _ rfl es true (by simp; omega),fun h2=>Cn.eq (c72 (x:=v.natAbs) rfl (by omega)) ⟨_,rfl,key 0 _ rfl es _ (hdec h1 h2)⟩⟩⟩
theorem c19 {M:Mem}:Cn Try.prog 19 #[] M fun v N=>v=PtrB M.nb.size∧Keep M N∧N.nb.size=M.nb.size+1∧Wr (fun _=>False) N M.nb.size []:=
  w19_0 ⟨rfl,.new _ _,Mem.new_size _ _,⟨fun h=>h,fun x h=>(by cases h),by decide,none,0,Mem.new_at _ _,.inl ⟨rfl,rfl,rfl⟩,Nat.le_refl _⟩⟩
theorem c28 (h:Wr S M j w) (hf:M.floor≤M.nb.size):Cn Try.prog 28 #[PtrB j] M fun v N=>∃ A' c',v=.slice A' (pack w).length c'∧Keep M N∧Own (fun i=>M.nb.size≤i) N 5 A' c' (U8 (pack w))∧(pack w).length≤c':=by
  obtain ⟨A,c,g1,g2,g3⟩:=h.ex
  have hl:=h.len
  refine w28_0 (Cn.eq h.there ⟨_,rfl,fun h=>absurd h (by simp),fun _=>⟨_,rfl,_,sl_of g1 rfl,Cn.mono (c61' hf g2.row (n:=(w.length+7) / 8) (pack_len w) (by omega)) ?_⟩⟩)
  rintro v N ⟨A',c',rfl,hK,hO,hc⟩
  exact ⟨_,rfl,A',c',by rw [pack_len],hK,hO,by rw [pack_len]; exact hc⟩
end
end Go.Zt

/- Layer 1: the document's writers. -/
set_option linter.unusedSimpArgs false
set_option linter.unusedVariables false
namespace Go.Zt
open Go Go.Sim Go.Proofs Go.RowKit
structure Wf (S:Nat→Prop) (M:Mem) (j:Nat) (w:List Nat):Prop where
  out:¬ S j
  bin:Bin w
  len:w.length≤100000000000
  ex:∃ A c,M.nb[j]?=some (.cells #[.slice A w.length c] 83)∧Own S M 3 A c (N64 w)∧w.length≤c
theorem Wf.chg {S:Nat→Prop} {T:Nat→Prop} {M M':Mem} {j:Nat} {w:List Nat} (h:Wf S M j w) (k:Chg T M M') (hT:∀ i,i<M.nb.size→S i∨i=j→¬ T i):Wf S M' j w:=by
  obtain ⟨A,c,h1,h2,h3⟩:=h.ex
  exact ⟨h.out,h.bin,h.len,A,c,at_chg h1 k (hT j (lt_of_at h1) (.inr rfl)),h2.chg k fun i hi hs=>hT i hi (.inl hs),h3⟩
theorem Wf.push {S:Nat→Prop} {j:Nat} {M:Mem} {w:List Nat} (hf:Fl S M j) (h:Wf S M j w) {x:Nat} (hx:x<2) (hl:w.length≤95000000000):
    ∃ A c,M.slAt (2*j) 0=some (A,w.length,c)∧∃ A' c' M1,appendP Try.prog #[81,81] (.slice A w.length c) (.slice (some ⟨2*M.nb.size,0,none⟩) 1 1) (M.new (.cells #[.int .i64 (x:Nat)] 3))=some (.slice A' (w.length+1) c',M1)∧
      ∃ M2,M1.put (2*j) 0 (.slice A' (w.length+1) c')=some M2∧Chg (fun i=>S i∨i=j) M M2∧Wf S M2 j (w ++ [x]):=by
  obtain ⟨A,c,g1,g2,g3⟩:=h.ex
  have hjl:=lt_of_at g1
  have hfj:M.floor≤j:=hf.fl j (.inr rfl)
  obtain ⟨A',c',M1,p1,p2,p3,p4⟩:=app1S el3 g2 (n:=w.length) (by simp) (v:=.int .i64 (x:Nat)) (fun i hi=>hf.fl i (.inl hi)) (hf.nw _ (Nat.le_refl _)) (hf.nw _ (Nat.le_succ _)) rfl (by omega)
  have q1:=at_chg g1 p2 h.out
  have hf1:M1.floor≤j:=by rw [p2.floor]; exact hfj
  have P1:=put_of (i:=0) (v:=.slice A' (w.length+1) c') q1 hf1 (by simp) rfl
  have C1:Chg (· = j) M1 (M1.upd j (.cells ((#[.slice A w.length c]:Array Value).setIfInBounds 0 (.slice A' (w.length+1) c')) 83)):=upd_chg rfl
  refine ⟨A,c,sl_of g1 rfl,A',c',M1,p1,_,P1,(p2.mono fun i _ hi=>.inl hi).trans (C1.mono fun i _ hi=>.inr hi),h.out,bin_append h.bin (fun y hy=>by simp at hy; omega),by simp; omega,A',c',?_,?_,by simpa using p4⟩
  · rw [upd_at (lt_of_at q1)]; simp
  · have e:N64 (w ++ [x])=N64 w ++ [Value.int .i64 (x:Nat)]:=by simp
    rw [e]; exact p3.chg C1 fun i _ hs he=>h.out (he ▸ hs)
theorem c49_loop {S:Nat→Prop} {j:Nat} {M0:Mem} (hf0:Fl S M0 j) {v:Nat} (hv:v<4611686018427387904) {Q:Value→Mem→Prop} {wEnd:List Nat} (hQ:∀ N,Chg (fun i=>S i∨i=j) M0 N→Wf S N j wEnd→Q (.tuple #[]) N):
    ∀ (n:Nat) (w:List Nat) {M:Mem},n≤64→Chg (fun i=>S i∨i=j) M0 M→Wf S M j w→w.length+n≤90000000000→w ++ bitsN v n=wEnd→A49_1 (some ⟨2*j,0,none⟩) v ((n:Int) - 1) M Q
  | 0,w,M,hn,K,h,hl,he=>by
    refine w49_1 ⟨fun h=>absurd h (by omega),fun _=>hQ M K (by rw [← he,bitsN,List.append_nil]; exact h)⟩
  | n+1,w,M,hn,K,h,hl,he=>by
    have hf:=hf0.chg K
    have en:(((n+1:Nat):Int) - 1)=(n:Int):=by omega
    rw [en]
    have hx:v / 2 ^ n % 2<2:=Nat.mod_lt _ (by decide)
    have e0:binV Try.prog .shr 86 3 (.int .u64 (v:Int)) (.int .i64 (n:Int))=some (.int .u64 ((v / 2 ^ n:Nat):Int)):=shr_nat (k:=.u64) rfl (show n≤64 by omega)
    have e1:(IntKind.i64.wrap ((v / 2 ^ n:Nat):Int)).tmod 2=((v / 2 ^ n % 2:Nat):Int):=by
      have hd:v / 2 ^ n<4611686018427387904:=Nat.lt_of_le_of_lt (Nat.div_le_self _ _) hv
      generalize v / 2 ^ n=y at hd
      rw [i64w (by omega)]; exact tmodN y 2
    obtain ⟨A,c,s1,A',c',M1,p1,M2,p2,hC,hW⟩:=h.push hf hx (by omega)
    refine w49_1 ⟨fun _=>⟨_,rfl,_,s1,_,e0,_,rfl,?_⟩,fun h=>absurd (show (n:Int) ≥ 0 by omega) h⟩
    rw [e1,i64w (by omega)]
    exact ⟨_,p1,_,rfl,_,rfl,_,p2,c49_loop hf0 hv hQ n (w ++ [v / 2 ^ n % 2]) (by omega) (K.trans hC) hW (by simp; omega) (by rw [← he,bitsN]; simp)⟩
section
variable {S:Nat→Prop} {j:Nat} {M:Mem} {w:List Nat}
theorem c49 (hf:Fl S M j) (h:Wf S M j w) {v n:Nat} {y z:Int} (hy:y=(v:Int)) (hz:z=(n:Int)) (hv:v<4611686018427387904) (hn:n≤64) (hl:w.length+n≤90000000000):
    Cn Try.prog 49 #[PtrB j,.int .u64 y,.int .i64 z] M fun u N=>u=.tuple #[]∧Chg (fun i=>S i∨i=j) M N∧Wf S N j (w ++ bitsN v n):=by
  subst hy hz
  refine w49_0 ?_
  rw [i64w (by omega)]
  exact c49_loop hf hv (fun N hC hW=>⟨rfl,hC,hW⟩) n w hn (.refl _) h hl rfl
def WfR (S:Nat→Prop) (M:Mem) (j:Nat) (r:Nat × List Nat):Value→Mem→Prop:=fun u N=>u=.int .i64 (r.1:Nat)∧Chg (fun i=>S i∨i=j) M N∧Wf S N j r.2
theorem c23 (hf:Fl S M j) (h:Wf S M j w) {v:Nat} {y:Int} (hy:y=(v:Int)) (hv:v<4294967296) (n:Int) (hl:w.length≤80000000000):
    Cn Try.prog 23 #[PtrB j,.int .u32 y,.int .i64 n] M (WfR S M j (wFixed w v n)):=by
  subst hy
  have bad:wFixed w v n=(2,w)→A23_1 (some ⟨2*j,0,none⟩) v n true M (WfR S M j (wFixed w v n)):=fun e=>by
    rw [e]; exact w23_1 ⟨fun _=>⟨rfl,.refl _,h⟩,fun h=>(by cases h)⟩
  refine w23_0 ⟨fun h1=>bad (by unfold wFixed; rw [if_pos (by omega)]),fun h1=>⟨fun h2=>bad (by unfold wFixed; rw [if_pos (by omega)]),fun h2=>?_⟩⟩
  have hp:=Nat.two_pow_pos n.toNat
  have hp32:=pow32 (n:=n.toNat) (by omega)
  refine ⟨_,shl_nat (k:=.u64) (x:=1) (q:=n.toNat) rfl (by omega) (show 1*2 ^ n.toNat<2 ^ 64 by omega) (show n.toNat≤64 by omega),_,rfl,?_⟩
  rw [Nat.one_mul,u64w (by omega)]
  by_cases hc:v ≥ 2 ^ n.toNat
  · rw [decide_eq_true (by omega)]
    exact bad (by unfold wFixed; rw [if_pos (.inr (.inr hc))])
  · rw [decide_eq_false (by omega)]
    have e:wFixed w v n=(0,w ++ bitsN v n.toNat):=by unfold wFixed; rw [if_neg (by omega)]
    refine w23_1 ⟨fun h=>(by cases h),fun _=>Cn.mono (c49 hf h (v:=v) (n:=n.toNat) (u64w (by omega)) (by omega) (by omega) (by omega) (by omega)) ?_⟩
    rintro u N ⟨_,hC,hW⟩
    rw [e]; exact ⟨rfl,hC,hW⟩
theorem c53 (hf:Fl S M j) (h:Wf S M j w) {v:Int} (hv : -2147483648≤v∧v≤2147483647) (n:Int) (hl:w.length≤80000000000):
    Cn Try.prog 53 #[PtrB j,.int .i32 v,.int .i64 n] M (WfR S M j (wSigned w v n)):=by
  have key:∀ (y:Int),y=(v.natAbs:Nat)→∀ b:Bool,(b=true↔(n<1∨n > 31∨v.natAbs ≥ 2 ^ n.toNat))→A53_1 (some ⟨2*j,0,none⟩) v n y b M (WfR S M j (wSigned w v n)):=by
    intro y hy b hb
    subst hy
    refine w53_1 ⟨fun h1=>?_,fun h1=>?_⟩
    · have e:wSigned w v n=(2,w):=by unfold wSigned; rw [if_pos (hb.1 h1)]
      rw [e]; exact ⟨rfl,.refl _,h⟩
    · have hno:¬ (n<1∨n > 31∨v.natAbs ≥ 2 ^ n.toNat):=fun hh=>by rw [hb.2 hh] at h1; cases h1
      have e:wSigned w v n=(0,w ++ (if v<0 then 1 else 0)::bitsN v.natAbs n.toNat):=by unfold wSigned; rw [if_neg hno]
      have go:∀ s:Nat,s<2→s=(if v<0 then 1 else 0)→Cn Try.prog 49 #[PtrB j,.int .u64 (s:Nat),.int .i64 1] M fun v6 N6=>Cn Try.prog 49 #[PtrB j,.int .u64 (IntKind.u64.wrap ((v.natAbs:Nat):Int)),.int .i64 n] N6 fun v7 N7=>WfR S M j (wSigned w v n) (.int .i64 0) N7:=by
        intro s hs he
        refine Cn.mono (c49 hf h (v:=s) (n:=1) rfl rfl (by omega) (by omega) (by omega)) ?_
        rintro u N ⟨_,hC,hW⟩
        refine Cn.mono (c49 (hf.chg hC) hW (v:=v.natAbs) (n:=n.toNat) (u64w (by omega)) (by omega) (by omega) (by omega) (by simp [bitsN_len]; omega)) ?_
        rintro u2 N2 ⟨_,hC2,hW2⟩
        rw [e]
        refine ⟨rfl,hC.trans hC2,?_⟩
        have e2:w ++ bitsN s 1 ++ bitsN v.natAbs n.toNat=w ++ (if v<0 then 1 else 0)::bitsN v.natAbs n.toNat:=by
          simp only [bitsN,Nat.pow_zero,Nat.div_one,Nat.mod_eq_of_lt hs,← he]; simp
        rw [e2] at hW2; exact hW2
      refine ⟨fun h2=>go 1 (by decide) (by rw [if_pos h2]),fun h2=>go 0 (by decide) (by rw [if_neg h2])⟩
  have hvi:IntKind.i64.wrap v=v:=i64w (by omega)
  have hvn:IntKind.i64.wrap (0 - v)=0 - v:=i64w (by omega)
  have shl:¬ n<1→¬ n > 31→binV Try.prog .shl 2 3 (.int .i64 1) (.int .i64 n)=some (.int .i64 ((2 ^ n.toNat:Nat):Int))∧2 ^ n.toNat≤2147483648:=by
    intro h1 h2
    have hp31:=pow31 (n:=n.toNat) (by omega)
    refine ⟨?_,hp31⟩
    have:=binV_shl (P:=Try.prog) (t:=2) (tb:=3) (k:=.i64) (k2:=.i64) (x:=1) (q:=n.toNat)
    rw [show ((n.toNat:Nat):Int)=n by omega,Nat.min_eq_left (show n.toNat≤IntKind.bits .i64 by show n.toNat≤64; omega),Int.one_mul] at this
    rw [this]
    have e:(2:Int) ^ n.toNat=((2 ^ n.toNat:Nat):Int):=by push_cast; rfl
    rw [e]
    generalize 2 ^ n.toNat=q at hp31
    have e3:IntKind.i64.wrap ((q:Nat):Int)=((q:Nat):Int):=i64w (by omega)
    rw [e3]
  refine w53_0 ?_
  rw [hvi,hvn]
  refine ⟨fun h0=>?_,fun h0=>?_⟩
  · have ey:(0 - v)=((v.natAbs:Nat):Int):=by omega
    rw [ey]
    refine ⟨fun h1=>key _ rfl true (by simp; omega),fun h1=>⟨fun h2=>key _ rfl true (by simp; omega),fun h2=>?_⟩⟩
    obtain ⟨s1,s2⟩:=shl h1 h2
    exact ⟨_,s1,_,rfl,key _ rfl _ (by rw [decide_eq_true_eq]; omega)⟩
  · have ey:v=((v.natAbs:Nat):Int):=by omega
    have key':∀ b:Bool,(b=true↔(n<1∨n > 31∨v.natAbs ≥ 2 ^ n.toNat))→A53_1 (some ⟨2*j,0,none⟩) v n v b M (WfR S M j (wSigned w v n)):=fun b hb=>key v ey b hb
    refine ⟨fun h1=>key' true (by simp; omega),fun h1=>⟨fun h2=>key' true (by simp; omega),fun h2=>?_⟩⟩
    obtain ⟨s1,s2⟩:=shl h1 h2
    exact ⟨_,s1,_,rfl,key' _ (by rw [decide_eq_true_eq]; omega)⟩
theorem c20 {M:Mem}:Cn Try.prog 20 #[] M fun v N=>v=PtrB M.nb.size∧Keep M N∧N.nb.size=M.nb.size+1∧Wf (fun _=>False) N M.nb.size []:=
  w20_0 ⟨rfl,.new _ _,Mem.new_size _ _,⟨fun h=>h,fun x h=>(by cases h),by decide,none,0,Mem.new_at _ _,.inl ⟨rfl,rfl,rfl⟩,Nat.le_refl _⟩⟩
theorem c29 (h:Wf S M j w) (hf:M.floor≤M.nb.size):Cn Try.prog 29 #[PtrB j] M fun v N=>∃ A' c',v=.slice A' (pack w).length c'∧Keep M N∧Own (fun i=>M.nb.size≤i) N 5 A' c' (U8 (pack w)):=by
  obtain ⟨A,c,g1,g2,g3⟩:=h.ex
  have hl:=h.len
  refine w29_0 ⟨_,rfl,_,sl_of g1 rfl,Cn.mono (c62 hf g2.row h.bin (by omega) rfl) ?_⟩
  rintro v N ⟨A',c',rfl,hK,hO⟩
  exact ⟨_,rfl,A',c',rfl,hK,hO⟩
end
end Go.Zt

/- The functions' walks: for each function and each loop a rule of what it comes to. Printed by zw2.py. -/
set_option linter.unusedVariables false
set_option linter.unusedSimpArgs false
set_option maxRecDepth 100000
namespace Go.Zt
open Go Go.Sim Go.Proofs
def K9:List (List It × List Nat):=[]
def Z9:List (List Nat × List Nat):=[]
theorem b9:Try.prog.funcs[9]?=some Try.f9∧(Orc.tab Try.prog).lookup 9=none∧Try.f9.body=some (codeOf Try.f9):=⟨by kernel_rfl,by kernel_rfl,by kernel_rfl⟩
theorem w9_0 {Ax0:Option Addr} {lx0 cx0:Nat} {M:Mem} {Q:Value→Mem→Prop} (H:
 ∃ r1',appendP Try.prog #[24,24] (.slice none 0 0) (.slice Ax0 lx0 cx0) M=some r1'∧
 ∃ s2',asS r1'.1=some s2'∧
 Q (.slice s2'.1 (s2'.2.1) (s2'.2.2)) r1'.2):
 Cn Try.prog 9 #[.slice Ax0 lx0 cx0] M Q:=by
 try simp only [o2,o3] at H
 try simp only [oA,oB,oP,oS,oI,oU,oi,ob,op,os,ox,ot,oq,om] at H
 try simp only [oa,cD,cE,cN] at H
 try simp only [cB] at H
 exact
 Cn.mk (cuts:=K9) (sp:=Z9) 900 b9 rfl rfl H fun G=>by kernel_rfl
def K16:List (List It × List Nat):=[([.code [1,1,0,1,0,0],.lp [1,1,0,1,0,0],.blk 0,.code [1,1,1]],[0,1,5])]
def Z16:List (List Nat × List Nat):=[]
theorem b16:Try.prog.funcs[16]?=some Try.f16∧(Orc.tab Try.prog).lookup 16=none∧Try.f16.body=some (codeOf Try.f16):=⟨by kernel_rfl,by kernel_rfl,by kernel_rfl⟩
def A16_1 (Ax0:Option Addr) (lx0 cx0:Nat) (Ax1:Option Addr) (lx1 cx1:Nat) (x5:Int) (M:Mem) (Q:Value→Mem→Prop):Prop:=LvP Try.prog Try.f16 [(0,.slice Ax0 lx0 cx0),(1,.slice Ax1 lx1 cx1),(5,.int .i64 x5)] [.code [1,1,0,1,0,0],.lp [1,1,0,1,0,0],.blk 0,.code [1,1,1]] M Q
theorem w16_0 {Ax0:Option Addr} {lx0 cx0:Nat} {Ax1:Option Addr} {lx1 cx1:Nat} {M:Mem} {Q:Value→Mem→Prop} (H:
 ((((lx0:Int))≠((lx1:Int))→
 Q (.bool false) M)∧
 (((lx0:Int))=((lx1:Int))→
 A16_1 Ax0 lx0 cx0 Ax1 lx1 cx1 0 M Q))):
 Cn Try.prog 16 #[.slice Ax0 lx0 cx0,.slice Ax1 lx1 cx1] M Q:=by
 try simp only [o2,o3] at H
 try simp only [oA,oB,oP,oS,oI,oU,oi,ob,op,os,ox,ot,oq,om] at H
 try simp only [oa,cD,cE,cN] at H
 try simp only [cB] at H
 exact
 Cn.mk (cuts:=K16) (sp:=Z16) 900 b16 rfl rfl H fun G=>by kernel_rfl
theorem w16_1 {Ax0:Option Addr} {lx0 cx0:Nat} {Ax1:Option Addr} {lx1 cx1:Nat} {x5:Int} {M:Mem} {Q:Value→Mem→Prop} (H:
 ((x5<((lx0:Int))→
 ∃ a1',idxA Ax0 lx0 1 x5=some a1'∧
 ∃ x2',M.intAt .u8 a1'.block a1'.off=some x2'∧
 ∃ a3',idxA Ax1 lx1 1 x5=some a3'∧
 ∃ x4',M.intAt .u8 a3'.block a3'.off=some x4'∧
 ((x2'≠x4'→
 Q (.bool false) M)∧
 (x2'=x4'→
 A16_1 Ax0 lx0 cx0 Ax1 lx1 cx1 (IntKind.i64.wrap (x5+1)) M Q)))∧
 (¬ (x5<((lx0:Int)))→
 Q (.bool true) M))):
 A16_1 Ax0 lx0 cx0 Ax1 lx1 cx1 x5 M Q:=by
 try simp only [o2,o3] at H
 try simp only [oA,oB,oP,oS,oI,oU,oi,ob,op,os,ox,ot,oq,om] at H
 try simp only [oa,cD,cE,cN] at H
 try simp only [cB] at H
 exact
 LvP.mk (cuts:=K16) (sp:=Z16) 900 H fun G=>by kernel_rfl
def K21:List (List It × List Nat):=[]
def Z21:List (List Nat × List Nat):=[]
theorem b21:Try.prog.funcs[21]?=some Try.f21∧(Orc.tab Try.prog).lookup 21=none∧Try.f21.body=some (codeOf Try.f21):=⟨by kernel_rfl,by kernel_rfl,by kernel_rfl⟩
theorem w21_0 {x0 x1:Int} {M:Mem} {Q:Value→Mem→Prop} (H:
 ((x1≤0→
 Q (.int .i64 0) M)∧
 (¬ (x1≤0)→
 ∃ v1',binV Try.prog .rem 3 3 (.int .i64 x0) (.int .i64 x1)=some v1'∧
 ∃ x2',asI .i64 v1'=some x2'∧
 ((x2'<0→
 Q (.int .i64 (IntKind.i64.wrap (x2'+x1))) M)∧
 (¬ (x2'<0)→
 Q (.int .i64 (x2')) M))))):
 Cn Try.prog 21 #[.int .i64 x0,.int .i64 x1] M Q:=by
 try simp only [o2,o3] at H
 try simp only [oA,oB,oP,oS,oI,oU,oi,ob,op,os,ox,ot,oq,om] at H
 try simp only [oa,cD,cE,cN] at H
 try simp only [cB] at H
 exact
 Cn.mk (cuts:=K21) (sp:=Z21) 900 b21 rfl rfl H fun G=>by kernel_rfl
end Go.Zt

/- Layer 1: calls of readers and writers by their kinds; rows compared and copied. -/
set_option linter.unusedSimpArgs false
set_option linter.unusedVariables false
namespace Go.Zt
open Go Go.Sim Go.Proofs Go.RowKit
theorem c21 {x n:Int} {M:Mem} (hx : -9223372036854775808≤x∧x≤9223372036854775807) (hn:n≤9223372036854775807):Cn Try.prog 21 #[.int .i64 x,.int .i64 n] M fun v N=>v=.int .i64 (brg x n)∧N=M:=by
  refine w21_0 ⟨fun h=>⟨by unfold brg; rw [if_pos h],rfl⟩,fun h=>⟨_,binV_rem (by omega),_,rfl,?_⟩⟩
  obtain ⟨h1,h2⟩:=brg_tmod (x:=x) h
  have h3:brg x n<n∧0≤brg x n:=by
    unfold brg; rw [if_neg h]
    exact ⟨Int.emod_lt_of_pos x (by omega),Int.emod_nonneg x (by omega)⟩
  refine ⟨fun h0=>⟨by rw [h1 h0,i64w (by omega)],rfl⟩,fun h0=>⟨by rw [h2 h0],rfl⟩⟩
theorem c16_loop {M:Mem} {A B:Option Addr} {l l':List Nat} (hA:Row M A (U8 l)) (hB:Row M B (U8 l')) {n m c d:Nat} (hn:n=l.length) (hm:m=l'.length) (hl:l.length=l'.length) (hb:n≤4611686018427387904) {Q:Value→Mem→Prop}:
    ∀ (k i:Nat),i+k=n→Q (.bool (decide (l.drop i=l'.drop i))) M→A16_1 A n c B m d i M Q
  | 0,i,hi,hQ=>by
    refine w16_1 ⟨fun h=>by omega,fun _=>?_⟩
    have e:decide (l.drop i=l'.drop i)=true:=by
      rw [List.drop_of_length_le (by omega),List.drop_of_length_le (by omega)]; simp
    rw [e] at hQ; exact hQ
  | k+1,i,hi,hQ=>by
    have h1:i<l.length:=by omega
    have h2:i<l'.length:=by omega
    obtain ⟨a,i1,i2⟩:=hA.int1 (n:=n) (i:=i) (z:=i) (k:=.u8) (x:=(l[i]:Nat)) rfl (by omega) (by simp [h1])
    obtain ⟨a',i3,i4⟩:=hB.int1 (n:=m) (i:=i) (z:=i) (k:=.u8) (x:=(l'[i]:Nat)) rfl (by omega) (by simp [h2])
    refine w16_1 ⟨fun _=>⟨_,i1,_,i2,_,i3,_,i4,fun hne=>?_,fun he=>?_⟩,fun h=>by omega⟩
    · have e:decide (l.drop i=l'.drop i)=false:=decide_eq_false fun e=>hne (by
        have:=congrArg (fun x=>x[0]?) e
        simp [h1,h2] at this
        rw [this])
      rw [e] at hQ; exact hQ
    · rw [i64w (by omega),show ((i:Int)+1)=((i+1:Nat):Int) by omega]
      refine c16_loop hA hB hn hm hl hb k (i+1) (by omega) ?_
      have e:(l.drop i=l'.drop i)=(l.drop (i+1)=l'.drop (i+1)):=by
        rw [List.drop_eq_getElem_cons h1,List.drop_eq_getElem_cons h2,show l[i]=l'[i] by omega]; exact propext ⟨fun x=>(List.cons.inj x).2,fun x=>by rw [x]⟩
      simpa only [e] using hQ
theorem c16 {M:Mem} {A B:Option Addr} {l l':List Nat} (hA:Row M A (U8 l)) (hB:Row M B (U8 l')) {n m c d:Nat} (hn:n=l.length) (hm:m=l'.length) (hb:n≤4611686018427387904):
    Cn Try.prog 16 #[.slice A n c,.slice B m d] M fun v N=>v=.bool (decide (l=l'))∧N=M:=by
  refine w16_0 ⟨fun h=>⟨?_,rfl⟩,fun h=>?_⟩
  · have:l≠l':=fun e=>h (by rw [hn,hm,e])
    simp [this]
  · exact c16_loop hA hB hn hm (by omega) hb n 0 (by omega) ⟨rfl,rfl⟩
theorem c9 {M:Mem} (hf:M.floor≤M.nb.size) {A:Option Addr} {n c:Nat} {b:List Nat} (hR:Row M A (U8 b)) (hn:n=b.length) (hb:n≤4294967296):
    Cn Try.prog 9 #[.slice A n c] M fun v N=>∃ A' c',v=.slice A' n c'∧Keep M N∧Own (fun j=>M.nb.size≤j) N 5 A' c' (U8 b)∧n≤c':=by
  obtain ⟨A',c',M',g1,g2,g3,g4⟩:=append_own el5 (Own.empty (S:=fun j=>M.nb.size≤j) (M:=M) (e:=5)) (n:=0) (c:=0) (k:=n) (by simp) hR (by simp [hn]) (u8_one b) (fun j hj=>Nat.le_trans hf hj) (Nat.le_refl _) (by omega)
  rw [Nat.zero_add] at g1 g4
  exact w9_0 ⟨_,g1,_,rfl,A',c',rfl,Keep.step (.refl _) g2 fun j hj=>hj,by simpa using g3,g4⟩
structure DoV where
  k:Int
  n:Int
  v:Nat
def toU (x:Int):Nat:=(x % 4294967296).toNat
theorem toU_wrap (x:Int):IntKind.u32.wrap x=((toU x:Nat):Int):=by unfold toU; rw [IntKind.wrap_u32]; omega
section
variable {S:Nat→Prop} {M:Mem} {j:Nat} {b:List Nat} {p:Nat}
end
end Go.Zt

/- The functions' walks: for each function and each loop a rule of what it comes to. Printed by zw2.py. -/
set_option linter.unusedVariables false
set_option linter.unusedSimpArgs false
set_option maxRecDepth 100000
namespace Go.Zt
open Go Go.Sim Go.Proofs
def K55:List (List It × List Nat):=[]
def Z55:List (List Nat × List Nat):=[]
theorem b55:Try.prog.funcs[55]?=some Try.f55∧(Orc.tab Try.prog).lookup 55=none∧Try.f55.body=some (codeOf Try.f55):=⟨by kernel_rfl,by kernel_rfl,by kernel_rfl⟩
theorem w55_0 {x0 x1 x2:Int} {M:Mem} {Q:Value→Mem→Prop} (H:
 ((x0 ≥ x1→
 Q (.bool (decide (x0≤x2))) M)∧
 (¬ (x0 ≥ x1)→
 Q (.bool false) M))):
 Cn Try.prog 55 #[.int .i64 x0,.int .i64 x1,.int .i64 x2] M Q:=by
 try simp only [o2,o3] at H
 try simp only [oA,oB,oP,oS,oI,oU,oi,ob,op,os,ox,ot,oq,om] at H
 try simp only [oa,cD,cE,cN] at H
 try simp only [cB] at H
 exact
 Cn.mk (cuts:=K55) (sp:=Z55) 900 b55 rfl rfl H fun G=>by kernel_rfl
def K44:List (List It × List Nat):=[]
def Z44:List (List Nat × List Nat):=[]
theorem b44:Try.prog.funcs[44]?=some Try.f44∧(Orc.tab Try.prog).lookup 44=none∧Try.f44.body=some (codeOf Try.f44):=⟨by kernel_rfl,by kernel_rfl,by kernel_rfl⟩
theorem w44_0 {x0:Int} {M:Mem} {Q:Value→Mem→Prop} (H:
 Cn Try.prog 55 #[.int .i64 x0,.int .i64 16,.int .i64 256] M fun v1' N1'=>
 ∃ b2',asB v1'=some b2'∧
 ((b2'=true→
 Q (.bool ((x0.tmod 2) == 0)) N1')∧
 (b2'=false→
 Q (.bool false) N1'))):
 Cn Try.prog 44 #[.int .i64 x0] M Q:=by
 try simp only [o2,o3] at H
 try simp only [oA,oB,oP,oS,oI,oU,oi,ob,op,os,ox,ot,oq,om] at H
 try simp only [oa,cD,cE,cN] at H
 try simp only [cB] at H
 exact
 Cn.mk (cuts:=K44) (sp:=Z44) 900 b44 rfl rfl H fun G=>by kernel_rfl
def K14:List (List It × List Nat):=[([.code [1,0,1],.code [1,1]],[12])]
def Z14:List (List Nat × List Nat):=[]
theorem b14:Try.prog.funcs[14]?=some Try.f14∧(Orc.tab Try.prog).lookup 14=none∧Try.f14.body=some (codeOf Try.f14):=⟨by kernel_rfl,by kernel_rfl,by kernel_rfl⟩
def A14_1 (x12:Bool) (M:Mem) (Q:Value→Mem→Prop):Prop:=LvP Try.prog Try.f14 [(12,.bool x12)] [.code [1,0,1],.code [1,1]] M Q
theorem w14_0 {x0_0 x0_1:Int} {M:Mem} {Q:Value→Mem→Prop} (H:
 ∃ x1',(M.new (.cells #[.int .i64 x0_0,.int .i64 x0_1] 23)).intAt .i64 (2*M.nb.size) 0=some x1'∧
 Cn Try.prog 44 #[.int .i64 x1'] (M.new (.cells #[.int .i64 x0_0,.int .i64 x0_1] 23)) fun v2' N2'=>
 ∃ b3',asB v2'=some b3'∧
 (((!b3')=true→
 A14_1 true N2' Q)∧
 ((!b3')=false→
 ∃ x4',N2'.intAt .i64 (2*M.nb.size) (0+1)=some x4'∧
 Cn Try.prog 44 #[.int .i64 x4'] N2' fun v5' N5'=>
 ∃ b6',asB v5'=some b6'∧
 A14_1 (!b6') N5' Q))):
 Cn Try.prog 14 #[.agg #[.int .i64 x0_0,.int .i64 x0_1]] M Q:=by
 try simp only [o2,o3] at H
 try simp only [oA,oB,oP,oS,oI,oU,oi,ob,op,os,ox,ot,oq,om] at H
 try simp only [oa,cD,cE,cN] at H
 try simp only [cB] at H
 exact
 Cn.mk (cuts:=K14) (sp:=Z14) 900 b14 rfl rfl H fun G=>by kernel_rfl
theorem w14_1 {x12:Bool} {M:Mem} {Q:Value→Mem→Prop} (H:
 ((x12=true→
 Q (.int .i64 2) M)∧
 (x12=false→
 Q (.int .i64 0) M))):
 A14_1 x12 M Q:=by
 try simp only [o2,o3] at H
 try simp only [oA,oB,oP,oS,oI,oU,oi,ob,op,os,ox,ot,oq,om] at H
 try simp only [oa,cD,cE,cN] at H
 try simp only [cB] at H
 exact
 LvP.mk (cuts:=K14) (sp:=Z14) 900 H fun G=>by kernel_rfl
def K45:List (List It × List Nat):=[]
def Z45:List (List Nat × List Nat):=[]
theorem b45:Try.prog.funcs[45]?=some Try.f45∧(Orc.tab Try.prog).lookup 45=none∧Try.f45.body=some (codeOf Try.f45):=⟨by kernel_rfl,by kernel_rfl,by kernel_rfl⟩
theorem w45_0 {x0 x1 x2:Int} {M:Mem} {Q:Value→Mem→Prop} (H:
 ((x0 ≥ x1→
 Q (.bool (decide (x0≤x2))) M)∧
 (¬ (x0 ≥ x1)→
 Q (.bool false) M))):
 Cn Try.prog 45 #[.int .i64 x0,.int .i64 x1,.int .i64 x2] M Q:=by
 try simp only [o2,o3] at H
 try simp only [oA,oB,oP,oS,oI,oU,oi,ob,op,os,ox,ot,oq,om] at H
 try simp only [oa,cD,cE,cN] at H
 try simp only [cB] at H
 exact
 Cn.mk (cuts:=K45) (sp:=Z45) 900 b45 rfl rfl H fun G=>by kernel_rfl
def K15:List (List It × List Nat):=[([.rg [1,0,0] 11,.code [1,0,1],.code [1,1]],[1,13]),([.rg [1,0,0] 17,.code [1,0,1],.code [1,1]],[1,19]),([.code [1,0,1],.code [1,1]],[24])]
def Z15:List (List Nat × List Nat):=[([1,0,0],[11,17,22])]
theorem b15:Try.prog.funcs[15]?=some Try.f15∧(Orc.tab Try.prog).lookup 15=none∧Try.f15.body=some (codeOf Try.f15):=⟨by kernel_rfl,by kernel_rfl,by kernel_rfl⟩
def A15_1 (x1:Option Addr) (x13:Bool) (M:Mem) (Q:Value→Mem→Prop):Prop:=LvP Try.prog Try.f15 [(1,.pointer x1),(13,.bool x13)] [.rg [1,0,0] 11,.code [1,0,1],.code [1,1]] M Q
def A15_2 (x1:Option Addr) (x19:Bool) (M:Mem) (Q:Value→Mem→Prop):Prop:=LvP Try.prog Try.f15 [(1,.pointer x1),(19,.bool x19)] [.rg [1,0,0] 17,.code [1,0,1],.code [1,1]] M Q
def A15_3 (x24:Bool) (M:Mem) (Q:Value→Mem→Prop):Prop:=LvP Try.prog Try.f15 [(24,.bool x24)] [.code [1,0,1],.code [1,1]] M Q
theorem w15_0 {x0_0 x0_1:Int} {M:Mem} {Q:Value→Mem→Prop} (H:
 ∃ x1',(M.new (.cells #[.int .i64 x0_0,.int .i64 x0_1] 23)).intAt .i64 (2*M.nb.size) 0=some x1'∧
 Cn Try.prog 45 #[.int .i64 x1',.int .i64 16,.int .i64 256] (M.new (.cells #[.int .i64 x0_0,.int .i64 x0_1] 23)) fun v2' N2'=>
 ∃ b3',asB v2'=some b3'∧
 (((!b3')=true→
 A15_1 (some ⟨2*M.nb.size,0,none⟩) true N2' Q)∧
 ((!b3')=false→
 ∃ x4',N2'.intAt .i64 (2*M.nb.size) (0+1)=some x4'∧
 Cn Try.prog 45 #[.int .i64 x4',.int .i64 16,.int .i64 256] N2' fun v5' N5'=>
 ∃ b6',asB v5'=some b6'∧
 A15_1 (some ⟨2*M.nb.size,0,none⟩) (!b6') N5' Q))):
 Cn Try.prog 15 #[.agg #[.int .i64 x0_0,.int .i64 x0_1]] M Q:=by
 try simp only [o2,o3] at H
 try simp only [oA,oB,oP,oS,oI,oU,oi,ob,op,os,ox,ot,oq,om] at H
 try simp only [oa,cD,cE,cN] at H
 try simp only [cB] at H
 exact
 Cn.mk (cuts:=K15) (sp:=Z15) 900 b15 rfl rfl H fun G=>by kernel_rfl
theorem w15_1 {x1:Option Addr} {x13:Bool} {M:Mem} {Q:Value→Mem→Prop} (H:
 ((x13=true→
 A15_2 x1 true M Q)∧
 (x13=false→
 ∃ a7',x1=some a7'∧
 ∃ x8',M.intAt .i64 a7'.block a7'.off=some x8'∧
 A15_2 x1 ((x8'.tmod 2) != 0) M Q))):
 A15_1 x1 x13 M Q:=by
 try simp only [o2,o3] at H
 try simp only [oA,oB,oP,oS,oI,oU,oi,ob,op,os,ox,ot,oq,om] at H
 try simp only [oa,cD,cE,cN] at H
 try simp only [cB] at H
 exact
 LvP.mk (cuts:=K15) (sp:=Z15) 900 H fun G=>by kernel_rfl
theorem w15_2 {x1:Option Addr} {x19:Bool} {M:Mem} {Q:Value→Mem→Prop} (H:
 ((x19=true→
 A15_3 true M Q)∧
 (x19=false→
 ∃ a9',x1=some a9'∧
 ∃ x10',M.intAt .i64 a9'.block (a9'.off+1)=some x10'∧
 A15_3 ((x10'.tmod 2) != 0) M Q))):
 A15_2 x1 x19 M Q:=by
 try simp only [o2,o3] at H
 try simp only [oA,oB,oP,oS,oI,oU,oi,ob,op,os,ox,ot,oq,om] at H
 try simp only [oa,cD,cE,cN] at H
 try simp only [cB] at H
 exact
 LvP.mk (cuts:=K15) (sp:=Z15) 900 H fun G=>by kernel_rfl
theorem w15_3 {x24:Bool} {M:Mem} {Q:Value→Mem→Prop} (H:
 ((x24=true→
 Q (.int .i64 2) M)∧
 (x24=false→
 Q (.int .i64 0) M))):
 A15_3 x24 M Q:=by
 try simp only [o2,o3] at H
 try simp only [oA,oB,oP,oS,oI,oU,oi,ob,op,os,ox,ot,oq,om] at H
 try simp only [oa,cD,cE,cN] at H
 try simp only [cB] at H
 exact
 LvP.mk (cuts:=K15) (sp:=Z15) 900 H fun G=>by kernel_rfl
def K10:List (List It × List Nat):=[([.code [1,1,1,0,1,0,0],.lp [1,1,1,0,1,0,0],.blk 0,.code [1,1,1,1]],[5,19,20])]
def Z10:List (List Nat × List Nat):=[]
theorem b10:Try.prog.funcs[10]?=some Try.f10∧(Orc.tab Try.prog).lookup 10=none∧Try.f10.body=some (codeOf Try.f10):=⟨by kernel_rfl,by kernel_rfl,by kernel_rfl⟩
def A10_1 (x5:Option Addr) (x19_0 x19_1 x20:Int) (M:Mem) (Q:Value→Mem→Prop):Prop:=LvP Try.prog Try.f10 [(5,.pointer x5),(19,.agg #[.int .i64 x19_0,.int .i64 x19_1]),(20,.int .i64 x20)] [.code [1,1,1,0,1,0,0],.lp [1,1,1,0,1,0,0],.blk 0,.code [1,1,1,1]] M Q
theorem w10_0 {x0_0 x0_1:Int} {M:Mem} {Q:Value→Mem→Prop} (H:
 ∃ x1',(M.new (.cells #[.int .i64 x0_0,.int .i64 x0_1] 23)).intAt .i64 (2*M.nb.size) 0=some x1'∧
 ∃ x2',(M.new (.cells #[.int .i64 x0_0,.int .i64 x0_1] 23)).intAt .i64 (2*M.nb.size) (0+1)=some x2'∧
 Cn Try.prog 14 #[.agg #[.int .i64 x1',.int .i64 x2']] (M.new (.cells #[.int .i64 x0_0,.int .i64 x0_1] 23)) fun v3' N3'=>
 ∃ x4',asI .i64 v3'=some x4'∧
 ((x4'≠0→
 Q (.tuple #[.slice none 0 0,.int .i64 (x4')]) N3')∧
 (x4'=0→
 Cn Try.prog 19 #[] N3' fun v5' N5'=>
 ∃ p6',asP v5'=some p6'∧
 ∃ x7',N5'.intAt .i64 (2*M.nb.size) 0=some x7'∧
 ∃ x8',N5'.intAt .i64 (2*M.nb.size) (0+1)=some x8'∧
 A10_1 p6' x7' x8' 0 N5' Q))):
 Cn Try.prog 10 #[.agg #[.int .i64 x0_0,.int .i64 x0_1]] M Q:=by
 try simp only [o2,o3] at H
 try simp only [oA,oB,oP,oS,oI,oU,oi,ob,op,os,ox,ot,oq,om] at H
 try simp only [oa,cD,cE,cN] at H
 try simp only [cB] at H
 exact
 Cn.mk (cuts:=K10) (sp:=Z10) 900 b10 rfl rfl H fun G=>by kernel_rfl
theorem w10_1 {x5:Option Addr} {x19_0 x19_1 x20:Int} {M:Mem} {Q:Value→Mem→Prop} (H:
 ((x20<2→
 ∃ v9',strV Try.prog 78 (.agg #[.int .i64 x19_0,.int .i64 x19_1]) (.int .i64 x20)=some v9'∧
 ∃ x10',asI .i64 v9'=some x10'∧
 Cn Try.prog 22 #[.pointer x5,.int .u32 (IntKind.u32.wrap ((IntKind.u32.wrap (IntKind.i64.wrap (x10' - 16))).tdiv 2)),.int .i64 7] M fun v11' N11'=>
 ∃ x12',asI .i64 v11'=some x12'∧
 ((x12'≠0→
 Q (.tuple #[.slice none 0 0,.int .i64 (x12')]) N11')∧
 (x12'=0→
 A10_1 x5 x19_0 x19_1 (IntKind.i64.wrap (x20+1)) N11' Q)))∧
 (¬ (x20<2)→
 Cn Try.prog 28 #[.pointer x5] M fun v13' N13'=>
 ∃ s14',asS v13'=some s14'∧
 Q (.tuple #[.slice s14'.1 (s14'.2.1) (s14'.2.2),.int .i64 0]) N13'))):
 A10_1 x5 x19_0 x19_1 x20 M Q:=by
 try simp only [o2,o3] at H
 try simp only [oA,oB,oP,oS,oI,oU,oi,ob,op,os,ox,ot,oq,om] at H
 try simp only [oa,cD,cE,cN] at H
 try simp only [cB] at H
 exact
 LvP.mk (cuts:=K10) (sp:=Z10) 900 H fun G=>by kernel_rfl
def K11:List (List It × List Nat):=[]
def Z11:List (List Nat × List Nat):=[]
theorem b11:Try.prog.funcs[11]?=some Try.f11∧(Orc.tab Try.prog).lookup 11=none∧Try.f11.body=some (codeOf Try.f11):=⟨by kernel_rfl,by kernel_rfl,by kernel_rfl⟩
theorem w11_0 {x0_0 x0_1:Int} {M:Mem} {Q:Value→Mem→Prop} (H:
 ∃ x1',(M.new (.cells #[.int .i64 x0_0,.int .i64 x0_1] 23)).intAt .i64 (2*M.nb.size) 0=some x1'∧
 ∃ x2',(M.new (.cells #[.int .i64 x0_0,.int .i64 x0_1] 23)).intAt .i64 (2*M.nb.size) (0+1)=some x2'∧
 Cn Try.prog 15 #[.agg #[.int .i64 x1',.int .i64 x2']] (M.new (.cells #[.int .i64 x0_0,.int .i64 x0_1] 23)) fun v3' N3'=>
 ∃ x4',asI .i64 v3'=some x4'∧
 ((x4'≠0→
 Q (.tuple #[.slice none 0 0,.int .i64 (x4')]) N3')∧
 (x4'=0→
 ∃ x5',N3'.intAt .i64 (2*M.nb.size) 0=some x5'∧
 ∃ x6',N3'.intAt .i64 (2*M.nb.size) (0+1)=some x6'∧
 Q (.tuple #[.slice (some ⟨2*N3'.nb.size,0,none⟩) 2 2,.int .i64 0]) (N3'.new (.cells #[.int .u8 (IntKind.u8.wrap (IntKind.i64.wrap ((IntKind.i64.wrap ((IntKind.i64.wrap ((IntKind.i64.wrap ((IntKind.i64.wrap (x5' - 16)).tdiv 2))*512))+(IntKind.i64.wrap ((IntKind.i64.wrap ((IntKind.i64.wrap (x6' - 16)).tdiv 2))*4)))).tdiv 256))),.int .u8 (IntKind.u8.wrap ((IntKind.i64.wrap ((IntKind.i64.wrap ((IntKind.i64.wrap ((IntKind.i64.wrap (x5' - 16)).tdiv 2))*512))+(IntKind.i64.wrap ((IntKind.i64.wrap ((IntKind.i64.wrap (x6' - 16)).tdiv 2))*4)))).tmod 256))] 5))))):
 Cn Try.prog 11 #[.agg #[.int .i64 x0_0,.int .i64 x0_1]] M Q:=by
 try simp only [o2,o3] at H
 try simp only [oA,oB,oP,oS,oI,oU,oi,ob,op,os,ox,ot,oq,om] at H
 try simp only [oa,cD,cE,cN] at H
 try simp only [cB] at H
 exact
 Cn.mk (cuts:=K11) (sp:=Z11) 900 b11 rfl rfl H fun G=>by kernel_rfl
def K12:List (List It × List Nat):=[([.code [1,1,1,1,0,1,0,0],.lp [1,1,1,1,0,1,0,0],.blk 0,.code [1,1,1,1,1]],[2,4,5,16]),([.code [1,1,1,1,1,1,0,0,1],.blk 2,.code [1,1,1,1,1,1,1]],[2,4,9,40]),([.code [1,1,1,1,1,1,0,0,1,1,1],.blk 2,.code [1,1,1,1,1,1,1]],[2,9,50])]
def Z12:List (List Nat × List Nat):=[]
theorem b12:Try.prog.funcs[12]?=some Try.f12∧(Orc.tab Try.prog).lookup 12=none∧Try.f12.body=some (codeOf Try.f12):=⟨by kernel_rfl,by kernel_rfl,by kernel_rfl⟩
def A12_1 (x2 x4 x5:Option Addr) (x16:Int) (M:Mem) (Q:Value→Mem→Prop):Prop:=LvP Try.prog Try.f12 [(2,.pointer x2),(4,.pointer x4),(5,.pointer x5),(16,.int .i64 x16)] [.code [1,1,1,1,0,1,0,0],.lp [1,1,1,1,0,1,0,0],.blk 0,.code [1,1,1,1,1]] M Q
def A12_2 (x2 x4 x9:Option Addr) (x40:Bool) (M:Mem) (Q:Value→Mem→Prop):Prop:=LvP Try.prog Try.f12 [(2,.pointer x2),(4,.pointer x4),(9,.pointer x9),(40,.bool x40)] [.code [1,1,1,1,1,1,0,0,1],.blk 2,.code [1,1,1,1,1,1,1]] M Q
def A12_3 (x2 x9:Option Addr) (x50:Bool) (M:Mem) (Q:Value→Mem→Prop):Prop:=LvP Try.prog Try.f12 [(2,.pointer x2),(9,.pointer x9),(50,.bool x50)] [.code [1,1,1,1,1,1,0,0,1,1,1],.blk 2,.code [1,1,1,1,1,1,1]] M Q
theorem w12_0 {Ax0:Option Addr} {lx0 cx0:Nat} {M:Mem} {Q:Value→Mem→Prop} (H:
 Cn Try.prog 31 #[.slice Ax0 lx0 cx0] (M.new (.cells #[.int .i64 0,.int .i64 0] 23)) fun v1' N1'=>
 ∃ p2',asP v1'=some p2'∧
 Cn Try.prog 37 #[.pointer p2'] (N1'.new (.cells #[.int .i64 0,.int .i64 0] 78)) fun v3' N3'=>
 ∃ x4',asI .i64 v3'=some x4'∧
 ((x4'<16→
 ∃ M5',N3'.put (2*M.nb.size) 0 (.int .i64 0)=some M5'∧
 ∃ M6',M5'.put (2*M.nb.size) (0+1) (.int .i64 0)=some M6'∧
 ∃ x7',M6'.intAt .i64 (2*M.nb.size) 0=some x7'∧
 ∃ x8',M6'.intAt .i64 (2*M.nb.size) (0+1)=some x8'∧
 Q (.tuple #[.agg #[.int .i64 (x7'),.int .i64 (x8')],.int .i64 3]) M6')∧
 (¬ (x4'<16)→
 A12_1 (some ⟨2*M.nb.size,0,none⟩) p2' (some ⟨2*N1'.nb.size,0,none⟩) 0 N3' Q))):
 Cn Try.prog 12 #[.slice Ax0 lx0 cx0] M Q:=by
 try simp only [o2,o3] at H
 try simp only [oA,oB,oP,oS,oI,oU,oi,ob,op,os,ox,ot,oq,om] at H
 try simp only [oa,cD,cE,cN] at H
 try simp only [cB] at H
 exact
 Cn.mk (cuts:=K12) (sp:=Z12) 900 b12 rfl rfl H fun G=>by kernel_rfl
theorem w12_1 {x2 x4 x5:Option Addr} {x16:Int} {M:Mem} {Q:Value→Mem→Prop} (H:
 ((x16<2→
 Cn Try.prog 33 #[.pointer x4,.int .i64 7] M fun v9' N9'=>
 ∃ cs10',asU 2 v9'=some cs10'∧
 ∃ x11',asI .u32 (cs10'.getD 0 undef)=some x11'∧
 ∃ x12',asI .i64 (cs10'.getD 1 undef)=some x12'∧
 ((x12'≠0→
 ∃ a13',x2=some a13'∧
 ∃ M14',N9'.put a13'.block a13'.off (.int .i64 0)=some M14'∧
 ∃ M15',M14'.put a13'.block (a13'.off+1) (.int .i64 0)=some M15'∧
 ∃ a16',x2=some a16'∧
 ∃ x17',M15'.intAt .i64 a16'.block a16'.off=some x17'∧
 ∃ x18',M15'.intAt .i64 a16'.block (a16'.off+1)=some x18'∧
 Q (.tuple #[.agg #[.int .i64 (x17'),.int .i64 (x18')],.int .i64 (x12')]) M15')∧
 (x12'=0→
 ∃ a19',idxA x5 2 1 x16=some a19'∧
 ∃ M20',N9'.put a19'.block a19'.off (.int .i64 (IntKind.i64.wrap (16+(IntKind.i64.wrap (2*(IntKind.i64.wrap (x11')))))))=some M20'∧
 A12_1 x2 x4 x5 (IntKind.i64.wrap (x16+1)) M20' Q)))∧
 (¬ (x16<2)→
 ∃ a21',idxA x5 2 1 0=some a21'∧
 ∃ x22',M.intAt .i64 a21'.block a21'.off=some x22'∧
 ∃ a23',idxA x5 2 1 1=some a23'∧
 ∃ x24',M.intAt .i64 a23'.block a23'.off=some x24'∧
 ∃ M25',(M.new (.cells #[.int .i64 0,.int .i64 0] 23)).put (2*M.nb.size) 0 (.int .i64 x22')=some M25'∧
 ∃ M26',M25'.put (2*M.nb.size) 1 (.int .i64 x24')=some M26'∧
 ∃ x27',M26'.intAt .i64 (2*M.nb.size) 0=some x27'∧
 ((x27' > 256→
 A12_2 x2 x4 (some ⟨2*M.nb.size,0,none⟩) true M26' Q)∧
 (¬ (x27' > 256)→
 ∃ x28',M26'.intAt .i64 (2*M.nb.size) (0+1)=some x28'∧
 A12_2 x2 x4 (some ⟨2*M.nb.size,0,none⟩) (decide (x28' > 256)) M26' Q))))):
 A12_1 x2 x4 x5 x16 M Q:=by
 try simp only [o2,o3] at H
 try simp only [oA,oB,oP,oS,oI,oU,oi,ob,op,os,ox,ot,oq,om] at H
 try simp only [oa,cD,cE,cN] at H
 try simp only [cB] at H
 exact
 LvP.mk (cuts:=K12) (sp:=Z12) 900 H fun G=>by kernel_rfl
theorem w12_2 {x2 x4 x9:Option Addr} {x40:Bool} {M:Mem} {Q:Value→Mem→Prop} (H:
 ((x40=true→
 ∃ a29',x2=some a29'∧
 ∃ M30',M.put a29'.block a29'.off (.int .i64 0)=some M30'∧
 ∃ M31',M30'.put a29'.block (a29'.off+1) (.int .i64 0)=some M31'∧
 ∃ a32',x2=some a32'∧
 ∃ x33',M31'.intAt .i64 a32'.block a32'.off=some x33'∧
 ∃ x34',M31'.intAt .i64 a32'.block (a32'.off+1)=some x34'∧
 Q (.tuple #[.agg #[.int .i64 (x33'),.int .i64 (x34')],.int .i64 5]) M31')∧
 (x40=false→
 Cn Try.prog 40 #[.pointer x4] M fun v35' N35'=>
 ∃ x36',asI .i64 v35'=some x36'∧
 ((x36'≠0→
 A12_3 x2 x9 true N35' Q)∧
 (x36'=0→
 Cn Try.prog 37 #[.pointer x4] N35' fun v37' N37'=>
 ∃ x38',asI .i64 v37'=some x38'∧
 A12_3 x2 x9 (decide (x38' > 0)) N37' Q))))):
 A12_2 x2 x4 x9 x40 M Q:=by
 try simp only [o2,o3] at H
 try simp only [oA,oB,oP,oS,oI,oU,oi,ob,op,os,ox,ot,oq,om] at H
 try simp only [oa,cD,cE,cN] at H
 try simp only [cB] at H
 exact
 LvP.mk (cuts:=K12) (sp:=Z12) 900 H fun G=>by kernel_rfl
theorem w12_3 {x2 x9:Option Addr} {x50:Bool} {M:Mem} {Q:Value→Mem→Prop} (H:
 ((x50=true→
 ∃ a39',x2=some a39'∧
 ∃ M40',M.put a39'.block a39'.off (.int .i64 0)=some M40'∧
 ∃ M41',M40'.put a39'.block (a39'.off+1) (.int .i64 0)=some M41'∧
 ∃ a42',x2=some a42'∧
 ∃ x43',M41'.intAt .i64 a42'.block a42'.off=some x43'∧
 ∃ x44',M41'.intAt .i64 a42'.block (a42'.off+1)=some x44'∧
 Q (.tuple #[.agg #[.int .i64 (x43'),.int .i64 (x44')],.int .i64 4]) M41')∧
 (x50=false→
 ∃ a45',x9=some a45'∧
 ∃ x46',M.intAt .i64 a45'.block a45'.off=some x46'∧
 ∃ x47',M.intAt .i64 a45'.block (a45'.off+1)=some x47'∧
 ∃ a48',x2=some a48'∧
 ∃ M49',M.put a48'.block a48'.off (.int .i64 x46')=some M49'∧
 ∃ M50',M49'.put a48'.block (a48'.off+1) (.int .i64 x47')=some M50'∧
 ∃ a51',x2=some a51'∧
 ∃ x52',M50'.intAt .i64 a51'.block a51'.off=some x52'∧
 ∃ x53',M50'.intAt .i64 a51'.block (a51'.off+1)=some x53'∧
 Q (.tuple #[.agg #[.int .i64 (x52'),.int .i64 (x53')],.int .i64 0]) M50'))):
 A12_3 x2 x9 x50 M Q:=by
 try simp only [o2,o3] at H
 try simp only [oA,oB,oP,oS,oI,oU,oi,ob,op,os,ox,ot,oq,om] at H
 try simp only [oa,cD,cE,cN] at H
 try simp only [cB] at H
 exact
 LvP.mk (cuts:=K12) (sp:=Z12) 900 H fun G=>by kernel_rfl
def K13:List (List It × List Nat):=[([.code [1,1,1,1,0,1],.code [1,1,1,1,1]],[0,2,4,5,37]),([.code [1,1,1,1,1,0,1],.code [1,1,1,1,1,1]],[2,5,46])]
def Z13:List (List Nat × List Nat):=[]
theorem b13:Try.prog.funcs[13]?=some Try.f13∧(Orc.tab Try.prog).lookup 13=none∧Try.f13.body=some (codeOf Try.f13):=⟨by kernel_rfl,by kernel_rfl,by kernel_rfl⟩
def A13_1 (Ax0:Option Addr) (lx0 cx0:Nat) (x2:Option Addr) (x4:Int) (x5:Option Addr) (x37:Bool) (M:Mem) (Q:Value→Mem→Prop):Prop:=LvP Try.prog Try.f13 [(0,.slice Ax0 lx0 cx0),(2,.pointer x2),(4,.int .i64 x4),(5,.pointer x5),(37,.bool x37)] [.code [1,1,1,1,0,1],.code [1,1,1,1,1]] M Q
def A13_2 (x2 x5:Option Addr) (x46:Bool) (M:Mem) (Q:Value→Mem→Prop):Prop:=LvP Try.prog Try.f13 [(2,.pointer x2),(5,.pointer x5),(46,.bool x46)] [.code [1,1,1,1,1,0,1],.code [1,1,1,1,1,1]] M Q
theorem w13_0 {Ax0:Option Addr} {lx0 cx0:Nat} {M:Mem} {Q:Value→Mem→Prop} (H:
 ((((lx0:Int))<2→
 ∃ M1',(M.new (.cells #[.int .i64 0,.int .i64 0] 23)).put (2*M.nb.size) 0 (.int .i64 0)=some M1'∧
 ∃ M2',M1'.put (2*M.nb.size) (0+1) (.int .i64 0)=some M2'∧
 ∃ x3',M2'.intAt .i64 (2*M.nb.size) 0=some x3'∧
 ∃ x4',M2'.intAt .i64 (2*M.nb.size) (0+1)=some x4'∧
 Q (.tuple #[.agg #[.int .i64 (x3'),.int .i64 (x4')],.int .i64 3]) M2')∧
 (¬ (((lx0:Int))<2)→
 ∃ a5',idxA Ax0 lx0 1 0=some a5'∧
 ∃ x6',(M.new (.cells #[.int .i64 0,.int .i64 0] 23)).intAt .u8 a5'.block a5'.off=some x6'∧
 ∃ a7',idxA Ax0 lx0 1 1=some a7'∧
 ∃ x8',(M.new (.cells #[.int .i64 0,.int .i64 0] 23)).intAt .u8 a7'.block a7'.off=some x8'∧
 ∃ M9',((M.new (.cells #[.int .i64 0,.int .i64 0] 23)).new (.cells #[.int .i64 0,.int .i64 0] 23)).put (2*(M.new (.cells #[.int .i64 0,.int .i64 0] 23)).nb.size) 0 (.int .i64 (IntKind.i64.wrap (16+(IntKind.i64.wrap (2*(IntKind.i64.wrap ((IntKind.i64.wrap ((IntKind.i64.wrap ((IntKind.i64.wrap (x6'))*256))+(IntKind.i64.wrap (x8')))).tdiv 512)))))))=some M9'∧
 ∃ M10',M9'.put (2*(M.new (.cells #[.int .i64 0,.int .i64 0] 23)).nb.size) 1 (.int .i64 (IntKind.i64.wrap (16+(IntKind.i64.wrap (2*((IntKind.i64.wrap ((IntKind.i64.wrap ((IntKind.i64.wrap ((IntKind.i64.wrap (x6'))*256))+(IntKind.i64.wrap (x8')))).tdiv 4)).tmod 128))))))=some M10'∧
 ∃ x11',M10'.intAt .i64 (2*(M.new (.cells #[.int .i64 0,.int .i64 0] 23)).nb.size) 0=some x11'∧
 ((x11' > 256→
 A13_1 Ax0 lx0 cx0 (some ⟨2*M.nb.size,0,none⟩) (IntKind.i64.wrap ((IntKind.i64.wrap ((IntKind.i64.wrap (x6'))*256))+(IntKind.i64.wrap (x8')))) (some ⟨2*(M.new (.cells #[.int .i64 0,.int .i64 0] 23)).nb.size,0,none⟩) true M10' Q)∧
 (¬ (x11' > 256)→
 ∃ x12',M10'.intAt .i64 (2*(M.new (.cells #[.int .i64 0,.int .i64 0] 23)).nb.size) (0+1)=some x12'∧
 A13_1 Ax0 lx0 cx0 (some ⟨2*M.nb.size,0,none⟩) (IntKind.i64.wrap ((IntKind.i64.wrap ((IntKind.i64.wrap (x6'))*256))+(IntKind.i64.wrap (x8')))) (some ⟨2*(M.new (.cells #[.int .i64 0,.int .i64 0] 23)).nb.size,0,none⟩) (decide (x12' > 256)) M10' Q))))):
 Cn Try.prog 13 #[.slice Ax0 lx0 cx0] M Q:=by
 try simp only [o2,o3] at H
 try simp only [oA,oB,oP,oS,oI,oU,oi,ob,op,os,ox,ot,oq,om] at H
 try simp only [oa,cD,cE,cN] at H
 try simp only [cB] at H
 exact
 Cn.mk (cuts:=K13) (sp:=Z13) 900 b13 rfl rfl H fun G=>by kernel_rfl
theorem w13_1 {Ax0:Option Addr} {lx0 cx0:Nat} {x2:Option Addr} {x4:Int} {x5:Option Addr} {x37:Bool} {M:Mem} {Q:Value→Mem→Prop} (H:
 ((x37=true→
 ∃ a13',x2=some a13'∧
 ∃ M14',M.put a13'.block a13'.off (.int .i64 0)=some M14'∧
 ∃ M15',M14'.put a13'.block (a13'.off+1) (.int .i64 0)=some M15'∧
 ∃ a16',x2=some a16'∧
 ∃ x17',M15'.intAt .i64 a16'.block a16'.off=some x17'∧
 ∃ x18',M15'.intAt .i64 a16'.block (a16'.off+1)=some x18'∧
 Q (.tuple #[.agg #[.int .i64 (x17'),.int .i64 (x18')],.int .i64 5]) M15')∧
 (x37=false→
 (((x4.tmod 4)≠0→
 A13_2 x2 x5 true M Q)∧
 ((x4.tmod 4)=0→
 A13_2 x2 x5 (decide (((lx0:Int)) > 2)) M Q))))):
 A13_1 Ax0 lx0 cx0 x2 x4 x5 x37 M Q:=by
 try simp only [o2,o3] at H
 try simp only [oA,oB,oP,oS,oI,oU,oi,ob,op,os,ox,ot,oq,om] at H
 try simp only [oa,cD,cE,cN] at H
 try simp only [cB] at H
 exact
 LvP.mk (cuts:=K13) (sp:=Z13) 900 H fun G=>by kernel_rfl
theorem w13_2 {x2 x5:Option Addr} {x46:Bool} {M:Mem} {Q:Value→Mem→Prop} (H:
 ((x46=true→
 ∃ a19',x2=some a19'∧
 ∃ M20',M.put a19'.block a19'.off (.int .i64 0)=some M20'∧
 ∃ M21',M20'.put a19'.block (a19'.off+1) (.int .i64 0)=some M21'∧
 ∃ a22',x2=some a22'∧
 ∃ x23',M21'.intAt .i64 a22'.block a22'.off=some x23'∧
 ∃ x24',M21'.intAt .i64 a22'.block (a22'.off+1)=some x24'∧
 Q (.tuple #[.agg #[.int .i64 (x23'),.int .i64 (x24')],.int .i64 4]) M21')∧
 (x46=false→
 ∃ a25',x5=some a25'∧
 ∃ x26',M.intAt .i64 a25'.block a25'.off=some x26'∧
 ∃ x27',M.intAt .i64 a25'.block (a25'.off+1)=some x27'∧
 ∃ a28',x2=some a28'∧
 ∃ M29',M.put a28'.block a28'.off (.int .i64 x26')=some M29'∧
 ∃ M30',M29'.put a28'.block (a28'.off+1) (.int .i64 x27')=some M30'∧
 ∃ a31',x2=some a31'∧
 ∃ x32',M30'.intAt .i64 a31'.block a31'.off=some x32'∧
 ∃ x33',M30'.intAt .i64 a31'.block (a31'.off+1)=some x33'∧
 Q (.tuple #[.agg #[.int .i64 (x32'),.int .i64 (x33')],.int .i64 0]) M30'))):
 A13_2 x2 x5 x46 M Q:=by
 try simp only [o2,o3] at H
 try simp only [oA,oB,oP,oS,oI,oU,oi,ob,op,os,ox,ot,oq,om] at H
 try simp only [oa,cD,cE,cN] at H
 try simp only [cB] at H
 exact
 LvP.mk (cuts:=K13) (sp:=Z13) 900 H fun G=>by kernel_rfl
end Go.Zt

/- Layer 20: sequence headers: CheckSeq c14 c15,SeqBytes c10 c11,ReadSeq c12 c13. -/
set_option linter.unusedSimpArgs false
set_option linter.unusedVariables false
namespace Go.Zt
open Go Go.Sim Go.Proofs Go.RowKit
theorem nb {b:Bool} (h:(!b)=true):b=false:=by cases b <;> simp_all
theorem nb' {b:Bool} (h:(!b)=false):b=true:=by cases b <;> simp_all
theorem fb {M N:Mem} (hf:M.floor≤M.nb.size) (K:Keep M N):N.floor≤N.nb.size:=by rw [K.floor]; exact Nat.le_trans hf K.size
theorem set2s {M:Mem} {j:Nat} {a b:Value} {e:TypeId} (h:M.nb[j]?=some (.cells #[a,b] e)) (hf:M.floor≤j) (x y:Int):
    ∃ M1,M.put (2*j) 0 (.int .i64 x)=some M1∧∃ M2,M1.put (2*j) 1 (.int .i64 y)=some M2∧Chg (· = j) M M2∧M2.nb[j]?=some (.cells #[.int .i64 x,.int .i64 y] e):=by
  have p1:=put_of (i:=0) (v:=.int .i64 x) h hf (by simp) rfl
  have C1:=upd_chg (M:=M) (S:=(· = j)) (b:=.cells ((#[a,b]:Array Value).setIfInBounds 0 (.int .i64 x)) e) (j:=j) rfl
  have u1:=upd_at (M:=M) (b:=.cells ((#[a,b]:Array Value).setIfInBounds 0 (.int .i64 x)) e) (lt_of_at h)
  generalize M.upd j _=M1 at p1 C1 u1
  have p2:=put_of (i:=1) (v:=.int .i64 y) u1 (by rw [C1.floor]; exact hf) (by simp) rfl
  have C2:=C1.trans (upd_chg (M:=M1) (S:=(· = j)) (b:=.cells (((#[a,b]:Array Value).setIfInBounds 0 (.int .i64 x)).setIfInBounds 1 (.int .i64 y)) e) (j:=j) rfl)
  have u2:=upd_at (M:=M1) (b:=.cells (((#[a,b]:Array Value).setIfInBounds 0 (.int .i64 x)).setIfInBounds 1 (.int .i64 y)) e) (lt_of_at u1)
  generalize M1.upd j _=M2 at p2 C2 u2
  exact ⟨M1,p1,M2,p2,C2,u2⟩
def mayS (w h:Int):Bool:=decide (16≤w∧w≤256∧16≤h∧h≤256∧w % 2=0∧h % 2=0)
def chkS (w h:Int):Nat:=if mayS w h then 0 else 2
theorem m2 (x:Int):(x.tmod 2 == 0)=decide (x % 2=0):=by
  rw [Bool.eq_iff_iff]
  simp only [beq_iff_eq,decide_eq_true_eq]
  rw [← Int.dvd_iff_tmod_eq_zero,Int.dvd_iff_emod_eq_zero]
theorem c55 {x a b:Int} {M:Mem}:Cn Try.prog 55 #[.int .i64 x,.int .i64 a,.int .i64 b] M fun v N=>v=.bool (decide (a≤x∧x≤b))∧N=M:=
  w55_0 ⟨fun h=>⟨by congr 1; rw [decide_eq_decide]; omega,rfl⟩,fun h=>⟨by rw [decide_eq_false]; omega,rfl⟩⟩
theorem c45 {x a b:Int} {M:Mem}:Cn Try.prog 45 #[.int .i64 x,.int .i64 a,.int .i64 b] M fun v N=>v=.bool (decide (a≤x∧x≤b))∧N=M:=
  w45_0 ⟨fun h=>⟨by congr 1; rw [decide_eq_decide]; omega,rfl⟩,fun h=>⟨by rw [decide_eq_false]; omega,rfl⟩⟩
theorem c44 {x:Int} {M:Mem}:Cn Try.prog 44 #[.int .i64 x] M fun v N=>v=.bool (decide (16≤x∧x≤256∧x % 2=0))∧N=M:=by
  refine w44_0 (Cn.eq c55 ⟨_,rfl,fun h=>⟨?_,rfl⟩,fun h=>⟨?_,rfl⟩⟩)
  · have:=of_decide_eq_true h
    rw [m2]; congr 1; rw [decide_eq_decide]; omega
  · have:=of_decide_eq_false h
    congr 1; rw [eq_comm]; exact decide_eq_false (by omega)
def IntK (M:Mem) (x:Int):Value→Mem→Prop:=fun v N=>v=.int .i64 x∧Keep M N
theorem c14 {w h:Int} {M:Mem}:Cn Try.prog 14 #[.agg #[.int .i64 w,.int .i64 h]] M (IntK M (chkS w h:Nat)):=by
  have a:=Mem.new_at M (.cells #[.int .i64 w,.int .i64 h] 23)
  have K:Keep M (M.new (.cells #[.int .i64 w,.int .i64 h] 23)):=.new _ _
  refine w14_0 ?_
  generalize M.new (.cells #[.int .i64 w,.int .i64 h] 23)=N at a K ⊢
  have key:∀ b,b = !mayS w h→A14_1 b N (IntK M (chkS w h:Nat)):=by
    rintro b rfl
    refine w14_1 ⟨fun hb=>⟨?_,K⟩,fun hb=>⟨?_,K⟩⟩
    · unfold chkS; rw [if_neg (by rw [nb hb]; decide)]; rfl
    · unfold chkS; rw [if_pos (nb' hb)]; rfl
  refine ⟨_,int_of (i:=0) a rfl,Cn.eq c44 ⟨_,rfl,fun hb=>key _ ?_,fun hb=>⟨_,int_of (i:=0+1) a rfl,Cn.eq c44 ⟨_,rfl,key _ ?_⟩⟩⟩⟩
  · have:=of_decide_eq_false (nb hb)
    unfold mayS; rw [decide_eq_false (by omega)]; rfl
  · have:=of_decide_eq_true (nb' hb)
    congr 1
    unfold mayS; rw [decide_eq_decide]; omega
theorem c15 {w h:Int} {M:Mem}:Cn Try.prog 15 #[.agg #[.int .i64 w,.int .i64 h]] M (IntK M (chkS w h:Nat)):=by
  have a:=Mem.new_at M (.cells #[.int .i64 w,.int .i64 h] 23)
  have K:Keep M (M.new (.cells #[.int .i64 w,.int .i64 h] 23)):=.new _ _
  refine w15_0 ?_
  generalize M.new (.cells #[.int .i64 w,.int .i64 h] 23)=N at a K ⊢
  have key:∀ b,b = !mayS w h→A15_3 b N (IntK M (chkS w h:Nat)):=by
    rintro b rfl
    refine w15_3 ⟨fun hb=>⟨?_,K⟩,fun hb=>⟨?_,K⟩⟩
    · unfold chkS; rw [if_neg (by rw [nb hb]; decide)]; rfl
    · unfold chkS; rw [if_pos (nb' hb)]; rfl
  have t:∀ x:Int,(x.tmod 2 != 0) = !decide (x % 2=0):=fun x=>by rw [← m2]; rfl
  have key2:∀ b,b = !decide (16≤w∧w≤256∧16≤h∧h≤256∧w % 2=0)→A15_2 (some ⟨2*M.nb.size,0,none⟩) b N (IntK M (chkS w h:Nat)):=by
    rintro b rfl
    refine w15_2 ⟨fun hb=>key _ ?_,fun hb=>⟨_,rfl,_,int_of (i:=0+1) a rfl,key _ ?_⟩⟩
    · have:=of_decide_eq_false (nb hb)
      unfold mayS; rw [decide_eq_false (by omega)]; rfl
    · have:=of_decide_eq_true (nb' hb)
      rw [t]; congr 1; unfold mayS; rw [decide_eq_decide]; omega
  have key1:∀ b,b = !decide (16≤w∧w≤256∧16≤h∧h≤256)→A15_1 (some ⟨2*M.nb.size,0,none⟩) b N (IntK M (chkS w h:Nat)):=by
    rintro b rfl
    refine w15_1 ⟨fun hb=>key2 _ ?_,fun hb=>⟨_,rfl,_,int_of (i:=0) a rfl,key2 _ ?_⟩⟩
    · have:=of_decide_eq_false (nb hb)
      rw [decide_eq_false (by omega)]; rfl
    · have:=of_decide_eq_true (nb' hb)
      rw [t]; congr 1; rw [decide_eq_decide]; omega
  refine ⟨_,int_of (i:=0) a rfl,Cn.eq c45 ⟨_,rfl,fun hb=>key1 _ ?_,fun hb=>⟨_,int_of (i:=0+1) a rfl,Cn.eq c45 ⟨_,rfl,key1 _ ?_⟩⟩⟩⟩
  · have:=of_decide_eq_false (nb hb)
    rw [decide_eq_false (by omega)]; rfl
  · have:=of_decide_eq_true (nb' hb)
    congr 1; rw [decide_eq_decide]; omega
def seqN (w h:Int):Nat:=((w - 16) / 2*512+(h - 16) / 2*4).toNat
def sqb (w h:Int):List Nat:=if mayS w h then [seqN w h / 256,seqN w h % 256] else []
def SqR (M:Mem) (w h:Int):Value→Mem→Prop:=fun v N=>Keep M N∧∃ A c,v=.tuple #[.slice A (sqb w h).length c,.int .i64 (chkS w h:Nat)]∧Row N A (U8 (sqb w h))
theorem row0 {M:Mem} {A:Option Addr}:Row M A []:=fun i h=>absurd h (by simp)
theorem frV (M:Mem) (e:TypeId) (L:List Value) {cs:Array Value} (h:L.toArray=cs):∃ N,M.new (.cells cs e)=N∧Keep M N∧Row N (some ⟨2*M.nb.size,0,none⟩) L:=by
  subst h; exact ⟨_,rfl,.new _ _,Row.new M e L⟩
theorem chk0 {w h:Int} (e:((chkS w h:Nat):Int)=0):mayS w h=true:=by
  unfold chkS at e
  cases hm:mayS w h
  · rw [hm] at e; cases e
  · rfl
theorem chk1 {w h:Int} (e:((chkS w h:Nat):Int)≠0):mayS w h=false:=by
  cases hm:mayS w h
  · rfl
  · exact absurd (by unfold chkS; rw [hm]; rfl) e
theorem mayS_of {w h:Int} (e:mayS w h=true):16≤w∧w≤256∧16≤h∧h≤256∧w % 2=0∧h % 2=0:=of_decide_eq_true e
theorem c11 {w h:Int} {M:Mem}:Cn Try.prog 11 #[.agg #[.int .i64 w,.int .i64 h]] M (SqR M w h):=by
  have a:=Mem.new_at M (.cells #[.int .i64 w,.int .i64 h] 23)
  have K:Keep M (M.new (.cells #[.int .i64 w,.int .i64 h] 23)):=.new _ _
  refine w11_0 ?_
  generalize M.new (.cells #[.int .i64 w,.int .i64 h] 23)=N at a K ⊢
  refine ⟨_,int_of (i:=0) a rfl,_,int_of (i:=0+1) a rfl,Cn.mono c15 ?_⟩
  rintro _ N3 ⟨rfl,K3⟩
  have a3:=at_keep a K3
  refine ⟨_,rfl,fun he=>?_,fun he=>?_⟩
  · have hm:=chk1 he
    have e:sqb w h=[]:=by unfold sqb; rw [hm]; rfl
    refine ⟨K.trans K3,none,0,?_,?_⟩
    · rw [e]; rfl
    · rw [e]; exact row0
  · have hm:=chk0 he
    obtain ⟨h1,h2,h3,h4,h5,h6⟩:=mayS_of hm
    have e:sqb w h=[seqN w h / 256,seqN w h % 256]:=by unfold sqb; rw [hm]; rfl
    have t1:(w - 16).tdiv 2=(w - 16) / 2:=Int.tdiv_eq_ediv_of_nonneg (by omega)
    have t2:(h - 16).tdiv 2=(h - 16) / 2:=Int.tdiv_eq_ediv_of_nonneg (by omega)
    have g:(w - 16) / 2*512+(h - 16) / 2*4=((seqN w h:Nat):Int):=by unfold seqN; omega
    have gb:seqN w h<65536:=by unfold seqN; omega
    refine ⟨_,int_of (i:=0) a3 rfl,_,int_of (i:=0+1) a3 rfl,?_⟩
    simp only [i64w (x:=w - 16) (by omega),i64w (x:=h - 16) (by omega),t1,t2,i64w (x:=(w - 16) / 2) (by omega),i64w (x:=(h - 16) / 2) (by omega),i64w (x:=(w - 16) / 2*512) (by omega),i64w (x:=(h - 16) / 2*4) (by omega),g,i64w (x:=((seqN w h:Nat):Int)) (by omega)]
    generalize seqN w h=q at *
    have t3:((q:Nat):Int).tdiv 256=((q / 256:Nat):Int):=by rw [Int.tdiv_eq_ediv_of_nonneg (by omega)]; omega
    have t4:((q:Nat):Int).tmod 256=((q % 256:Nat):Int):=by rw [Int.tmod_eq_emod_of_nonneg (by omega)]; omega
    simp only [t3,t4,i64w (x:=((q / 256:Nat):Int)) (by omega),u8w (x:=((q / 256:Nat):Int)) (by omega),u8w (x:=((q % 256:Nat):Int)) (by omega)]
    obtain ⟨N5,e5,K5,R5⟩:=frV N3 5 (U8 [q / 256,q % 256]) rfl
    refine ⟨K.trans (K3.trans ?_),some ⟨2*N3.nb.size,0,none⟩,2,?_,?_⟩
    · rw [← e5] at K5; exact K5
    · rw [e]; unfold chkS; rw [hm]; rfl
    · rw [e,← e5] at *; exact R5
theorem packS (a b:Nat) (ha:a<121) (hb:b<121):pack (bitsN a 7 ++ bitsN b 7)=[(a*512+b*4) / 256,(a*512+b*4) % 256]:=by
  simp [pack,gbyte,bitL,numb,bitsN,List.range_succ]
  omega
theorem c10 {w h:Int} {M:Mem} (hf:M.floor≤M.nb.size):Cn Try.prog 10 #[.agg #[.int .i64 w,.int .i64 h]] M (SqR M w h):=by
  have a:=Mem.new_at M (.cells #[.int .i64 w,.int .i64 h] 23)
  have K:Keep M (M.new (.cells #[.int .i64 w,.int .i64 h] 23)):=.new _ _
  refine w10_0 ?_
  generalize M.new (.cells #[.int .i64 w,.int .i64 h] 23)=N at a K ⊢
  refine ⟨_,int_of (i:=0) a rfl,_,int_of (i:=0+1) a rfl,Cn.mono c14 ?_⟩
  rintro _ N3 ⟨rfl,K3⟩
  have a3:=at_keep a K3
  have K0:=K.trans K3
  refine ⟨_,rfl,fun he=>?_,fun he=>?_⟩
  · have hm:=chk1 he
    have e:sqb w h=[]:=by unfold sqb; rw [hm]; rfl
    refine ⟨K0,none,0,?_,?_⟩
    · rw [e]; rfl
    · rw [e]; exact row0
  · have hm:=chk0 he
    obtain ⟨h1,h2,h3,h4,h5,h6⟩:=mayS_of hm
    have t1:(w - 16).tdiv 2=(((w - 16) / 2).toNat:Int):=by rw [Int.tdiv_eq_ediv_of_nonneg (by omega)]; omega
    have t2:(h - 16).tdiv 2=(((h - 16) / 2).toNat:Int):=by rw [Int.tdiv_eq_ediv_of_nonneg (by omega)]; omega
    have e:sqb w h=[(((w - 16) / 2).toNat*512+((h - 16) / 2).toNat*4) / 256,(((w - 16) / 2).toNat*512+((h - 16) / 2).toNat*4) % 256]:=by
      have:seqN w h=((w - 16) / 2).toNat*512+((h - 16) / 2).toNat*4:=by unfold seqN; omega
      unfold sqb; rw [hm,this]; rfl
    have ec:chkS w h=0:=by unfold chkS; rw [hm]; rfl
    have x1:((w - 16) / 2).toNat<121:=by omega
    have x2:((h - 16) / 2).toNat<121:=by omega
    have y1:IntKind.u32.wrap ((IntKind.u32.wrap (IntKind.i64.wrap (w - 16))).tdiv 2)=(((w - 16) / 2).toNat:Int):=by
      rw [i64w (x:=w - 16) (by omega),u32w (x:=w - 16) (by omega),t1,u32w (by omega)]
    have y2:IntKind.u32.wrap ((IntKind.u32.wrap (IntKind.i64.wrap (h - 16))).tdiv 2)=(((h - 16) / 2).toNat:Int):=by
      rw [i64w (x:=h - 16) (by omega),u32w (x:=h - 16) (by omega),t2,u32w (by omega)]
    generalize ((w - 16) / 2).toNat=p at *
    generalize ((h - 16) / 2).toNat=q at *
    have f3:=fb hf K0
    refine Cn.mono c19 ?_
    rintro _ N5 ⟨rfl,K5,s5,W5⟩
    have a5:=at_keep a3 K5
    have W:Wr (fun i=>N5.nb.size≤i) N5 N3.nb.size []:=⟨by show ¬ (N5.nb.size≤_); omega,W5.bin,W5.len,by obtain ⟨A,c,g1,g2,g3⟩:=W5.ex; exact ⟨A,c,g1,g2.mono fun i _ hi=>hi.elim,g3⟩⟩
    have F:Fl (fun i=>N5.nb.size≤i) N5 N3.nb.size:=⟨fun i hi=>by rw [K5.floor]; rcases hi with hi | hi <;> omega,fun i hi=>hi⟩
    have w1:wFixed [] p 7=(0,[] ++ bitsN p 7):=by unfold wFixed; rw [if_neg (by simp; omega)]; rfl
    have w2:wFixed ([] ++ bitsN p 7) q 7=(0,[] ++ bitsN p 7 ++ bitsN q 7):=by unfold wFixed; rw [if_neg (by simp; omega)]; rfl
    refine ⟨_,rfl,_,int_of (i:=0) a5 rfl,_,int_of (i:=0+1) a5 rfl,w10_1 ⟨fun _=>⟨.int .i64 w,by kernel_rfl,w,rfl,Cn.mono (c22 F W y1 (by omega) 7 (by simp)) ?_⟩,fun h=>absurd (by decide) h⟩⟩
    rw [w1]
    rintro _ N6 ⟨rfl,K6,W6⟩
    refine ⟨_,rfl,fun h=>absurd rfl h,fun _=>w10_1 ⟨fun _=>⟨.int .i64 h,by kernel_rfl,h,rfl,Cn.mono (c22 (F.chg K6) W6 y2 (by omega) 7 (by simp [bitsN])) ?_⟩,fun h=>absurd (by decide) h⟩⟩
    rw [w2]
    rintro _ N7 ⟨rfl,K7,W7⟩
    have f7:N7.floor≤N7.nb.size:=by
      have:=K6.size; have:=K7.size; have:=K5.size
      rw [K7.floor,K6.floor,K5.floor]; omega
    refine ⟨_,rfl,fun h=>absurd rfl h,fun _=>w10_1 ⟨fun h=>absurd h (by decide),fun _=>Cn.mono (c28 W7 f7) ?_⟩⟩
    rintro _ N8 ⟨A,c,rfl,K8,O8,_⟩
    have hp:pack ([] ++ bitsN p 7 ++ bitsN q 7)=sqb w h:=by rw [e,List.nil_append]; exact packS p q x1 x2
    dsimp only at O8
    rw [hp] at O8
    have big:∀ i,(N5.nb.size≤i∨i=N3.nb.size)→M.nb.size≤i:=fun i hi=>by have:=K0.size; have:=K5.size; omega
    refine ⟨_,rfl,(Keep.step (Keep.step (K0.trans K5) K6 big) K7 big).trans K8,A,c,?_,O8.row⟩
    rw [ec,← hp]; rfl
end Go.Zt
