/- Parts of a proof: Dma, Dnr, Dof, Dfw. No conditions. -/
import Derived.Test.YtdjeecgddbjbeaaGreatKr6
set_option linter.unusedVariables false
set_option linter.unusedSimpArgs false
namespace Go.Proofs.YtdjeecgddbjbeaaGreat
open Go.RowKit Go.Maps
theorem low_one {f : Nat → Int} (h : gcE f = 1) {k : Nat} (hk : k < 4) : lowF f (gcE f) 4 k = f k:=by
 rw [lowF,if_pos hk,h];simp
theorem low_s {f : Nat → Int} (hf : TubS f) (hg : 0 < gcE f) : TubS (lowF f (gcE f) 4):=by
 intro k hk
 obtain ⟨h0,h1⟩:=hf k hk
 rw [lowF,if_pos hk]
 have h2 : (1 : Int) ≤ (gcE f : Int):=by omega
 refine ⟨Int.ediv_nonneg h0 (by omega),Int.le_trans (Int.ediv_le_self _ h0) h1⟩
theorem gcT_zero {f : Nat → Int} : ∀ {n : Nat},(∀ k,k < n → f k ≤ 0) → gcT f n = 0
 | 0,_=>rfl
 | n + 1,h=>by
  rw [gcT,gcT_zero (n:=n) fun k hk=>h k (by omega),show (f n).toNat = 0 by have:=h n (by omega);omega,Nat.gcd_zero_right]
theorem low_eq {f : Nat → Int} (hf : TubS f) (hg : 0 < gcE f) (h : tubE (lowF f (gcE f) 4) f = true) : gcE f = 1:=by
 rw [tubE_iff] at h
 by_cases hz : ∀ k,k < 4 → f k ≤ 0
 ·rw [gcE,gcT_zero hz] at hg;omega
 ·simp only [Classical.not_forall] at hz
  obtain ⟨k,hk,hp⟩:=hz
  have h1:=h k hk
  rw [lowF,if_pos hk] at h1
  obtain ⟨h0,-⟩:=hf k hk
  by_cases h2 : (gcE f : Int) ≥ 2
  ·have h3 : f k / (gcE f : Int) < f k:=Int.ediv_lt_of_lt_mul (by omega) (by
    have : f k * 2 ≤ f k * (gcE f : Int):=Int.mul_le_mul_of_nonneg_left h2 h0
    omega)
   omega
  ·omega
theorem low_tub {f : Nat → Int} (h : gcE f = 1) : (!tubE (lowF f (gcE f) 4) f) = false:=by rw [tubE_iff.2 fun k hk=>low_one h hk];rfl
theorem bnot_t {b : Bool} (h : (!b) = true) : b = false:=by cases b;rfl;cases h
theorem bnot_f {b : Bool} (h : (!b) = false) : b = true:=by cases b;cases h;rfl
def cndE (x : Vm) (s : Nat → Int) (ls : List Int) (t : List Int) : Bool:=decide (gcE (val t) = 1) && matE x (val t) s ls
def matL (x : Vm) (s : Nat → Int) (ls : List Int) : List (List Int):=(recL x.D.length).filter (cndE x s ls)
theorem cnd_gc {x : Vm} {s : Nat → Int} {ls t : List Int} (h : gcE (val t) ≠ 1) : cndE x s ls t = false:=by rw [cndE,decide_eq_false h];rfl
theorem cnd_mat {x : Vm} {s : Nat → Int} {ls t : List Int} (h : matE x (val t) s ls = false) : cndE x s ls t = false:=by rw [cndE,h,Bool.and_false]
theorem cnd_yes {x : Vm} {s : Nat → Int} {ls t : List Int} (h1 : gcE (val t) = 1) (h : matE x (val t) s ls = true) : cndE x s ls t = true:=by rw [cndE,h,Bool.and_true];exact decide_eq_true h1
theorem val_ne {t q : List Int} (hl : t.length = q.length) (h4 : t.length ≤ 4) (h : t ≠ q) : ∃ k,k < 4 ∧ val q k ≠ val t k:=by
 apply Classical.byContradiction
 intro hn
 refine h (List.ext_getElem hl fun k h1 h2=>?_)
 apply Classical.byContradiction
 intro he
 refine hn ⟨k,by omega,fun e=>he ?_⟩
 simpa [val,h1,h2] using e.symm
structure MatI (x : Vm) (sv lv : Value) (w : World) (B n3 n4 n5 n7 n8 mb : Nat) (out : List (List Int)) (va : Option Addr) (vc : Nat) (W : World) : Prop where
 q3 : W.heap[n3]? = some (.cells #[.int .i64 x.B,.slice x.da x.D.length x.dc,.slice x.la x.L.length x.lc,.int .i64 x.tol] 69 (0,0))
 q4 : W.heap[n4]? = some (.cells #[sv] 25 (0,0))
 q5 : W.heap[n5]? = some (.cells #[lv] 25 (0,0))
 q7 : W.heap[n7]? = some (.cells #[.slice va out.length vc] 72 (0,0))
 q8 : W.heap[n8]? = some (.cells #[.map (some mb)] 113 (0,0))
 oo : W.ownsRow w.heap.size 75 4 (.slice va out.length vc) out.length (tubsV out)
 mp : MapT W mb out
 E : Ext [] w W
 sz : B ≤ W.heap.size
theorem MatI.kept {x : Vm} {sv lv : Value} {w : World} {n3 n4 n5 n7 n8 mb B : Nat} {out : List (List Int)} {va : Option Addr} {vc : Nat} {W V : World} {row : Option Nat} (h : MatI x sv lv w B n3 n4 n5 n7 n8 mb out va vc W) (hg : W.grownBy V row) (h1 : ∀ r,row = some r → B ≤ r)
  (h2 : ∀ r,row = some r → (Value.slice va out.length vc).ownBlock ≠ some r) (hB : n3 < B ∧ n4 < B ∧ n5 < B ∧ n7 < B ∧ n8 < B ∧ mb < B ∧ w.heap.size ≤ B) : MatI x sv lv w B n3 n4 n5 n7 n8 mb out va vc V:=by
 obtain ⟨b3,b4,b5,b7,b8,bm,bw⟩:=hB
 have hk : ∀ {k : Nat} {cs : Array Value} {T : TypeId} {fz : Nat × Nat},W.heap[k]? = some (.cells cs T fz) → k < B → V.heap[k]? = some (.cells cs T fz):=
  fun {k cs T fz} hq hb=>(hg.block k (blk_lt hq) (fun e=>by have:=h1 k e.symm;omega)).trans hq
 refine ⟨hk h.q3 b3,hk h.q4 b4,hk h.q5 b5,hk h.q7 b7,hk h.q8 b8,h.oo.kept hg ?_,h.mp.kept hg (fun e=>by have:=h1 mb e.symm;omega),ext_grownX h.E hg fun b e hl=>(by have:=h1 b e;omega),Nat.le_trans h.sz hg.size⟩
 cases hrow : row with
 | none =>
  cases hob : (Value.slice va out.length vc).ownBlock with
  | none=>exact .inl rfl
  | some g=>exact .inr (by simp)
 | some r=>exact .inr (h2 r hrow)
theorem mat_skip {x : Vm} {sv lv : Value} {w : World} {n3 n4 n5 n7 n8 mb B : Nat} {out : List (List Int)} {va : Option Addr} {vc : Nat} {W : World} {p : List Int → Bool} {q : List Int} (hp : p q = false) (h : MatI x sv lv w B n3 n4 n5 n7 n8 mb out va vc W) : ∃ va vc,MatI x sv lv w B n3 n4 n5 n7 n8 mb (if p q then out ++ [q] else out) va vc W:=by
 rw [hp];exact ⟨va,vc,h⟩
theorem mat_take {x : Vm} {sv lv : Value} {w : World} {n3 n4 n5 n7 n8 mb B : Nat} {out : List (List Int)} {va : Option Addr} {vc : Nat} {W : World} {p : List Int → Bool} {q : List Int} (hp : p q = true) (h : MatI x sv lv w B n3 n4 n5 n7 n8 mb (out ++ [q]) va vc W) : ∃ va vc,MatI x sv lv w B n3 n4 n5 n7 n8 mb (if p q then out ++ [q] else out) va vc W:=by
 rw [hp];exact ⟨va,vc,h⟩
theorem rowOf_at {ob : Nat} {W : World} {v : Value} {T : TypeId} {fz : Nat × Nat} (h : W.heap[ob]? = some (.cells #[v] T fz)) : rowOf ob W = v.ownBlock:=by rw [rowOf,h];rfl
theorem one_row (v : Value) (d : Nat) : ∃ r,(∀ b,v.ownBlock = some b → b = r) ∧ (v.ownBlock = some r ∨ r = d):=by
 cases h : v.ownBlock with
 | none=>exact ⟨d,fun b e=>(by cases e),.inr rfl⟩
 | some r=>exact ⟨r,fun b e=>(by cases e;rfl),.inl rfl⟩
theorem own_cells {w : World} {base n size : Nat} {e : TypeId} {v : Value} {xs : List Value} (h : w.ownsRow base e size v n xs) {r : Nat} (hr : v.ownBlock = some r) : ∃ cs T fz,w.heap[r]? = some (.cells cs T fz):=by
 rcases h.2 with ⟨rfl,_⟩ | ⟨g,cap,cur,rfl,_,hgb,_⟩
 ·cases hr
 ·obtain rfl : g = r:=by simpa [Value.ownBlock] using hr
  exact ⟨_,_,_,hgb⟩
theorem filter_snoc {α : Type} (p : α → Bool) (l : List α) (x : α) : (l ++ [x]).filter p = if p x then l.filter p ++ [x] else l.filter p:=by
 rw [List.filter_append]
 by_cases h : p x = true
 ·simp [h]
 ·simp [h]
theorem tubsV_snoc (out : List (List Int)) (t : List Int) : tubsV out ++ tubR (val t) = tubsV (out ++ [t]):=by simp [tubsV]
set_option maxRecDepth 100000 in
set_option maxHeartbeats 4000000 in
theorem matching_ok (x : Vm) (hv : VOk x) (s : List Int) (hs : SmpOk x s) (ls : List Int) (hl : LmpOk x ls) (hll : ls.length ≤ 1000) (sa la : Option Addr) (sc lc : Nat) (w : World) (h : x.At w) (hr : IsRows w (.slice sa s.length sc) 1 (s.map intRow)) (hq : IsRows w (.slice la ls.length lc) 1 (ls.map intRow)) :
  Calls Tryz.prog 43 #[.agg #[.int .i64 x.B,.slice x.da x.D.length x.dc,.slice x.la x.L.length x.lc,.int .i64 x.tol],.slice sa s.length sc,.slice la ls.length lc] w fun e w'=>∃ a c,e = .returned (.slice a (matL x (val s) ls).length c) ∧ w'.ownsRow w.heap.size 75 4 (.slice a (matL x (val s) ls).length c) (matL x (val s) ls).length (tubsV (matL x (val s) ls)) ∧ Ext [] w w':=by
 have E : Ext [] w w:=Ext.refl _ _
 have HX:=Lib.hid h
 have HV:=Lib.hid hv
 have HS:=Lib.hid hs
 have HR:=Lib.hid hr
 have HQ:=Lib.hid hq
 have HL:=Lib.hid hl
 have hd4:=hv.d4
 obtain ⟨hnd,hrl⟩:=recL_all x.D.length (by omega)
 have HND:=Lib.hid hnd
 have HRL:=Lib.hid hrl
 clear h hv hs hr hq hl hnd hrl
 refine calls_hasM 40 Tryz.func43 rfl Tryz.ntmps43 (Nat.le_of_ble_eq_true rfl) ?_
 intro fa F
 refine wp_seq_k fun K1 hK1=>?_
 refine wp_region_lit ?_
 refine sq_new F rfl (by decide) rfl (R_box rfl (F.at rfl)) ?_;clear F fa;intro fa w1 F hw
 obtain ⟨n3,hn⟩ : ∃ n,n = w.heap.size:=⟨_,rfl⟩
 rw [← hn] at F
 have s3 : w.heap.size ≤ n3:=Nat.le_of_eq hn.symm
 have l3_E : w.heap.size ≤ n3:=by rw [hn];exact E.size
 replace E:=ext_alloc E hw
 have q3:=new_row hw hn
 clear hw hn
 refine sq_new F rfl (by decide) rfl (R_box rfl (F.at rfl)) ?_;clear F fa;intro fa w2 F hw
 obtain ⟨n4,hn⟩ : ∃ n,n = w1.heap.size:=⟨_,rfl⟩
 rw [← hn] at F
 have s4 : w1.heap.size ≤ n4:=Nat.le_of_eq hn.symm
 have l4_E : w.heap.size ≤ n4:=by rw [hn];exact E.size
 have m4_3 : n3 < n4:=by rw [hn];exact blk_lt q3
 replace q3:=keep_alloc hw q3
 replace E:=ext_alloc E hw
 have q4:=new_one hw rfl hn
 clear hw hn
 refine sq_new F rfl (by decide) rfl (R_box rfl (F.at rfl)) ?_;clear F fa;intro fa w3 F hw
 obtain ⟨n5,hn⟩ : ∃ n,n = w2.heap.size:=⟨_,rfl⟩
 rw [← hn] at F
 have s5 : w2.heap.size ≤ n5:=Nat.le_of_eq hn.symm
 have l5_E : w.heap.size ≤ n5:=by rw [hn];exact E.size
 have m5_3 : n3 < n5:=by rw [hn];exact blk_lt q3
 have m5_4 : n4 < n5:=by rw [hn];exact blk_lt q4
 replace q3:=keep_alloc hw q3
 replace q4:=keep_alloc hw q4
 replace E:=ext_alloc E hw
 have q5:=new_one hw rfl hn
 clear hw hn
 refine F.vl (R_assign rfl (ev_c fa _)) ?_;clear F fa;intro fa F
 refine wpList_nil ?_
 refine hK1 _ _ ?_
 clear hK1
 refine wp_seq_k fun K2 hK2=>?_
 refine wp_region_lit ?_
 refine sq_new F rfl (by decide) rfl (R_alloc rfl Tryz.zeroValue72) ?_;clear F fa;intro fa w4 F hw
 obtain ⟨n7,hn⟩ : ∃ n,n = w3.heap.size:=⟨_,rfl⟩
 rw [← hn] at F
 have s7 : w3.heap.size ≤ n7:=Nat.le_of_eq hn.symm
 have l7_E : w.heap.size ≤ n7:=by rw [hn];exact E.size
 have m7_3 : n3 < n7:=by rw [hn];exact blk_lt q3
 have m7_4 : n4 < n7:=by rw [hn];exact blk_lt q4
 have m7_5 : n5 < n7:=by rw [hn];exact blk_lt q5
 replace q3:=keep_alloc hw q3
 replace q4:=keep_alloc hw q4
 replace q5:=keep_alloc hw q5
 replace E:=ext_alloc E hw
 have q7:=new_one hw rfl hn
 clear hw hn
 refine wpList_nil ?_
 refine hK2 _ _ ?_
 clear hK2
 refine wp_seq_k fun K3 hK3=>?_
 refine wp_region_lit ?_
 refine sq_new F rfl (by decide) rfl (R_makeMap rfl) ?_;clear F fa;intro fa w5 F hw
 obtain ⟨n11,hn⟩ : ∃ n,n = w4.heap.size:=⟨_,rfl⟩
 rw [← hn] at F
 have s11 : w4.heap.size ≤ n11:=Nat.le_of_eq hn.symm
 have l11_E : w.heap.size ≤ n11:=by rw [hn];exact E.size
 have m11_3 : n3 < n11:=by rw [hn];exact blk_lt q3
 have m11_4 : n4 < n11:=by rw [hn];exact blk_lt q4
 have m11_5 : n5 < n11:=by rw [hn];exact blk_lt q5
 have m11_7 : n7 < n11:=by rw [hn];exact blk_lt q7
 replace q3:=keep_alloc hw q3
 replace q4:=keep_alloc hw q4
 replace q5:=keep_alloc hw q5
 replace q7:=keep_alloc hw q7
 replace E:=ext_alloc E hw
 have map11 : MapT w5 n11 []:=by rw [hw,hn];exact map_made _
 clear hw hn
 refine sq_new F rfl (by decide) rfl (R_alloc rfl Tryz.zeroValue113) ?_;clear F fa;intro fa w6 F hw
 obtain ⟨n8,hn⟩ : ∃ n,n = w5.heap.size:=⟨_,rfl⟩
 rw [← hn] at F
 have s8 : w5.heap.size ≤ n8:=Nat.le_of_eq hn.symm
 have l8_E : w.heap.size ≤ n8:=by rw [hn];exact E.size
 have m8_3 : n3 < n8:=by rw [hn];exact blk_lt q3
 have m8_4 : n4 < n8:=by rw [hn];exact blk_lt q4
 have m8_5 : n5 < n8:=by rw [hn];exact blk_lt q5
 have m8_7 : n7 < n8:=by rw [hn];exact blk_lt q7
 replace map11:=map_alloc hw map11
 replace q3:=keep_alloc hw q3
 replace q4:=keep_alloc hw q4
 replace q5:=keep_alloc hw q5
 replace q7:=keep_alloc hw q7
 replace E:=ext_alloc E hw
 have q8:=new_one hw rfl hn
 clear hw hn
 refine sq_to rfl rfl (R_store rfl (F.at rfl) (F.at rfl) rfl (by kernel_rfl) ((cells_of_block q8 0).trans (get0)) (free_of_block q8 0)) ?_;intro w7 hw
 replace map11:=map_cell hw map11 q8
 replace q3:=keep_cell hw q3 (by omega)
 replace q4:=keep_cell hw q4 (by omega)
 replace q5:=keep_cell hw q5 (by omega)
 replace q7:=keep_cell hw q7 (by omega)
 replace q8:=put_cell hw q8 (by simp only [List.setIfInBounds_toArray,lsQ,lzQ];exact rfl)
 replace E:=ext_cell E hw (fun h=>by first | exact absurd h (by omega) | simp)
 clear hw
 refine wpList_nil ?_
 refine hK3 _ _ ?_
 clear hK3
 refine wp_seq_k fun K4 hK4=>?_
 refine wp_seq_k fun K5 hK5=>?_
 refine wp_region_lit ?_
 refine F.vl (R_loadBlk rfl (F.at rfl) Tryz.underlying69 rfl (by kernel_rfl) q3) ?_;clear F fa;intro fa F
 have b7':=blk_lt q7
 refine sq_call F rfl (by decide) rfl (R_callV rfl rfl Tryz.call54 (mpS (F.at rfl) mp0)) (recipes_any x _) fun e w8 hR=>?_
 obtain ⟨nb,rfl,hnb,qb,e9⟩:=hR
 refine ⟨_,rfl,?_⟩;clear F fa;intro fa F
 replace map11:=map_ext map11 (e9)
 replace q3:=(e9).keep0 q3
 replace q4:=(e9).keep0 q4
 replace q5:=(e9).keep0 q5
 replace q7:=(e9).keep0 q7
 replace q8:=(e9).keep0 q8
 replace E:=ext_same E (e9)
 clear e9
 refine wpList_nil ?_
 refine hK5 _ _ ?_
 clear hK5
 refine wp_block ?_
 obtain ⟨w3,hw3⟩ : ∃ w3,w3 = w8:=⟨_,rfl⟩
 have b3:=blk_lt q3
 have b4:=blk_lt q4
 have b5:=blk_lt q5
 have b7:=blk_lt q7
 have b8:=blk_lt q8
 have bb:=blk_lt qb
 have bw:=E.size
 have bm : n11 < w8.heap.size:=(by obtain ⟨es,ck,hm⟩:=map11.obj;exact blk_lt hm)
 have hr0 : rowOf n7 w8 = none:=rowOf_at q7
 have hseq:=recipes1_seq x hd4 [] n7 nb w8 b7 (by simp) (fun r e=>by rw [hr0] at e;cases e) ⟨by simp,by omega,by rw [hr0];simp⟩ qb
 have hI0 : ∃ va vc,MatI x (.slice sa s.length sc) (.slice la ls.length lc) w w8.heap.size n3 n4 n5 n7 n8 n11 (([] : List (List Int)).filter (cndE x (val s) ls)) va vc w8:=⟨none,0,q3,q4,q5,q7,q8,World.ownsRow_nil _ _ _ _,map11,E,Nat.le_refl _⟩
 replace F:=F.sub (.c 3 rfl (.c 4 rfl (.c 5 rfl (.c 7 rfl (.c 8 rfl (.c 13 rfl .n))))))
 refine range_R (F.at rfl) Tryz.call85 hseq (fun _=>rfl) b7 (fun pre W=>∃ va vc,MatI x (.slice sa s.length sc) (.slice la ls.length lc) w w8.heap.size n3 n4 n5 n7 n8 n11 (pre.filter (cndE x (val s) ls)) va vc W) ?h1 ?ho ?hc hI0 (fun pre q a' W=>∃ nt va vc,Has 40 [] a' [(3,.pointer (some ⟨n3,0,none⟩)),(4,.pointer (some ⟨n4,0,none⟩)),(5,.pointer (some ⟨n5,0,none⟩)),(7,.pointer (some ⟨n7,0,none⟩)),(8,.pointer (some ⟨n8,0,none⟩)),(9,.pointer (some ⟨nt,0,none⟩))] ∧ MatI x (.slice sa s.length sc) (.slice la ls.length lc) w w8.heap.size n3 n4 n5 n7 n8 n11 (pre.filter (cndE x (val s) ls)) va vc W ∧ W.heap[nt]? = some (.cells (tubC (val q)) 75 (0,0)) ∧ w8.heap.size ≤ nt ∧ some nt ≠ (Value.slice va (pre.filter (cndE x (val s) ls)).length vc).ownBlock) ?hax ?assign ?body ?done
 case h1=>rintro pre U V ⟨va,vc,hI⟩ hg;exact ⟨va,vc,hI.kept hg (fun r e=>by cases e) (fun r e=>by cases e) ⟨b3,b4,b5,b7,b8,bm,bw⟩⟩
 case ho=>rintro pre U V r ⟨va,vc,hI⟩ hr ⟨o,ho,hc⟩ hg;refine ⟨va,vc,hI.kept hg (fun r' e=>by cases e;exact hr) (fun r' e e2=>?_) ⟨b3,b4,b5,b7,b8,bm,bw⟩⟩;cases e;obtain ⟨cs,T,fz,hx⟩:=own_cells hI.oo e2;rw [ho] at hx;cases hx;cases hc
 case hc=>rintro pre U V r ⟨va,vc,hI⟩ hr hsf - hg;exact ⟨va,vc,hI.kept hg (fun r' e=>by cases e;exact hr) (fun r' e e2=>by cases e;exact hsf.2.2 (by rw [rowOf_at hI.q7];exact e2)) ⟨b3,b4,b5,b7,b8,bm,bw⟩⟩
 case hax=>rintro pre q a' U V r ⟨nt,va,vc,hF,hI,ht,hn,hno⟩ hr ⟨o,ho,hc⟩ hg;refine ⟨nt,va,vc,hF,hI.kept hg (fun r' e=>by cases e;exact hr) (fun r' e e2=>?_) ⟨b3,b4,b5,b7,b8,bm,bw⟩,(hg.block nt (blk_lt ht) (fun e=>?_)).trans ht,hn,hno⟩ <;> cases e;(· obtain ⟨cs,T,fz,hx⟩:=own_cells hI.oo e2;rw [ho] at hx;cases hx;cases hc);(· rw [ho] at ht;cases ht;cases hc)
 case assign =>
  clear map11 q3 q4 q5 q7 q8 qb E hI0
  rintro l pre q W K ⟨va,vc,⟨q3,q4,q5,q7,q8,oo,mapm,E,hsz⟩⟩ hK
  have hbo:=blk_lt q7
  refine wpIn_act (F.param (p:=14) (by decide) (.agg (tubC (val q)))) ?_
  clear F fa
  intro fa F
  have ER : Ext [] W W:=Ext.refl _ _
  refine wpI_region_lit rfl (fun h=>by obtain ⟨_,_,h⟩:=h;exact h) ?_
  refine sq_new F rfl (by decide) rfl (R_alloc rfl Tryz.zeroValue75) ?_;clear F fa;intro fa w9 F hw
  obtain ⟨n9,hn⟩ : ∃ n,n = W.heap.size:=⟨_,rfl⟩
  rw [← hn] at F
  have s9 : W.heap.size ≤ n9:=Nat.le_of_eq hn.symm
  have l9_E : w.heap.size ≤ n9:=by rw [hn];exact E.size
  have l9_ER : W.heap.size ≤ n9:=by rw [hn];exact ER.size
  have m9_3 : n3 < n9:=by rw [hn];exact blk_lt q3
  have m9_4 : n4 < n9:=by rw [hn];exact blk_lt q4
  have m9_5 : n5 < n9:=by rw [hn];exact blk_lt q5
  have m9_7 : n7 < n9:=by rw [hn];exact blk_lt q7
  have m9_8 : n8 < n9:=by rw [hn];exact blk_lt q8
  have o9_oo:=Lib.hid (own_ne_new oo hn)
  replace oo:=owns_alloc hw oo
  replace mapm:=map_alloc hw mapm
  replace q3:=keep_alloc hw q3
  replace q4:=keep_alloc hw q4
  replace q5:=keep_alloc hw q5
  replace q7:=keep_alloc hw q7
  replace q8:=keep_alloc hw q8
  replace E:=ext_alloc E hw
  replace ER:=ext_alloc ER hw
  have q9:=new_row hw hn
  clear hw hn
  refine sq_to rfl rfl (R_storeRow rfl (F.at rfl) (F.at rfl) (by kernel_rfl) (by simp [tubC,Value.oneCell']) q9 rfl) ?_;intro w10 hw
  replace oo:=owns_cellsX hw oo o9_oo.out
  replace mapm:=map_cells hw mapm q9
  replace q3:=keep_cells hw q3 (by omega)
  replace q4:=keep_cells hw q4 (by omega)
  replace q5:=keep_cells hw q5 (by omega)
  replace q7:=keep_cells hw q7 (by omega)
  replace q8:=keep_cells hw q8 (by omega)
  replace q9:=put_row hw q9 rfl
  replace E:=ext_cells E hw (fun h=>by first | exact absurd h (by omega) | simp)
  replace ER:=ext_cells ER hw (fun h=>by first | exact absurd h (by omega) | simp)
  clear hw
  refine wpList_nil ?_
  exact hK _ _ (keeps_ext ER (by simp)) (keepR_ext0 ER hbo) ⟨n9,va,vc,F.sub (.c 3 rfl (.c 4 rfl (.c 5 rfl (.c 7 rfl (.c 8 rfl (.c 9 rfl .n)))))),⟨q3,q4,q5,q7,q8,oo,mapm,E,Nat.le_trans hsz ER.size⟩,q9,by omega,o9_oo.out⟩
 case body =>
  clear map11 q3 q4 q5 q7 q8 qb E hI0 F fa
  rintro l pre q fa W ⟨nt,va,vc,F,⟨q3,q4,q5,q7,q8,oo,mapm,E,hsz⟩,q9,hnt,hno⟩ hpx
  have hqm : q ∈ recL x.D.length:=hpx.subset (by simp)
  obtain ⟨hql,hqs,hqg,hq1,hq6,hqb⟩:=HRL.out q hqm
  have hqn : q ∉ pre:=fun hm=>(by have hn:=hpx.sublist.nodup HND.out;rw [List.nodup_append] at hn;exact hn.2.2 q hm q (by simp) rfl)
  have hplen : pre.length ≤ 500:=(by have h1:=hpx.length_le;have h2:=recL_len x.D.length (by omega);rw [List.length_append] at h1;omega)
  have hsn:=filter_snoc (cndE x (val s) ls) pre q
  have hfr : gcE (val q) = 1 → ∀ t ∈ pre.filter (cndE x (val s) ls),∃ k,k < 4 ∧ lowF (val q) (gcE (val q)) 4 k ≠ val t k:=fun hg t ht=>(by have htp:=(List.mem_filter.1 ht).1;have htl:=(HRL.out t (hpx.subset (by simp [htp]))).1;obtain ⟨k,hk,hne⟩:=val_ne (t:=t) (q:=q) (by omega) (by omega) (fun e=>hqn (by rw [← e];exact htp));exact ⟨k,hk,by rw [low_one hg hk];exact hne⟩)
  have hol : (pre.filter (cndE x (val s) ls)).length < 1000:=(by have:=List.length_filter_le (cndE x (val s) ls) pre;omega)
  obtain ⟨out,hout⟩ : ∃ out,out = pre.filter (cndE x (val s) ls):=⟨_,rfl⟩
  rw [← hout] at q7 oo mapm hsn hfr hol hno
  have o9_oo:=Lib.hid hno
  obtain ⟨r,hrr,hrd⟩:=one_row (.slice va out.length vc) n11
  have hro : rowOf n7 W = (Value.slice va out.length vc).ownBlock:=rowOf_at q7
  have hrc : ∀ b ∈ [n11,n7,r],b < w3.heap.size ∨ ∃ cs T fz,W.heap[b]? = some (.cells cs T fz):=(by intro b hb;simp only [List.mem_cons,List.not_mem_nil,or_false] at hb;rcases hb with rfl | rfl | rfl;(· exact .inl (by rw [hw3];exact bm));(· exact .inl (by rw [hw3];exact b7));(· rcases hrd with h | h;(· exact .inr (own_cells oo h));(· rw [h];exact .inl (by rw [hw3];exact bm))))
  have hkx : ∀ k cs T fz,W.heap[k]? = some (.cells cs T fz) → Safe [] n7 k W → k ∉ [n11,n7,r]:=(by intro k cs T fz hk hsf hm;simp only [List.mem_cons,List.not_mem_nil,or_false] at hm;rcases hm with rfl | rfl | rfl;(· exact mapm.ne hk (fun _ _ h=>by cases h) rfl);(· exact hsf.2.1 rfl);(· rcases hrd with h | h;(· exact hsf.2.2 (by rw [hro];exact h));(· exact mapm.ne hk (fun _ _ h=>by cases h) h.symm)))
  have ER : Ext [n11,n7,r] W W:=Ext.refl _ _
  refine wpIn_block ?_
  refine wpIn_seq_k fun K6 hK6=>?_
  refine wpI_region_lit rfl (fun h=>by obtain ⟨_,_,h⟩:=h;exact h) ?_
  refine F.vl (R_loadBlk rfl (F.at rfl) Tryz.underlying75 rfl (by kernel_rfl) q9) ?_;clear F fa;intro fa F
  refine sq_call F rfl (by decide) rfl (R_callV rfl rfl Tryz.call76 (mpS (F.at rfl) mp0)) (lowest_ok (val q) hqs hqg _) fun e w11 hR=>?_
  obtain ⟨rfl,e9⟩:=hR
  refine ⟨_,rfl,?_⟩;clear F fa;intro fa F
  replace oo:=owns_ext oo (e9) (by simp)
  replace mapm:=map_ext mapm (e9)
  replace q3:=(e9).keep0 q3
  replace q4:=(e9).keep0 q4
  replace q5:=(e9).keep0 q5
  replace q7:=(e9).keep0 q7
  replace q8:=(e9).keep0 q8
  replace q9:=(e9).keep0 q9
  replace E:=ext_same E (e9)
  replace ER:=ext_same ER (e9)
  clear e9
  refine sq_new F rfl (by decide) rfl (R_alloc rfl Tryz.zeroValue75) ?_;clear F fa;intro fa w12 F hw
  obtain ⟨n10,hn⟩ : ∃ n,n = w11.heap.size:=⟨_,rfl⟩
  rw [← hn] at F
  have s10 : w11.heap.size ≤ n10:=Nat.le_of_eq hn.symm
  have l10_E : w.heap.size ≤ n10:=by rw [hn];exact E.size
  have l10_ER : W.heap.size ≤ n10:=by rw [hn];exact ER.size
  have m10_3 : n3 < n10:=by rw [hn];exact blk_lt q3
  have m10_4 : n4 < n10:=by rw [hn];exact blk_lt q4
  have m10_5 : n5 < n10:=by rw [hn];exact blk_lt q5
  have m10_7 : n7 < n10:=by rw [hn];exact blk_lt q7
  have m10_8 : n8 < n10:=by rw [hn];exact blk_lt q8
  have m10_9 : nt < n10:=by rw [hn];exact blk_lt q9
  have o10_oo:=Lib.hid (own_ne_new oo hn)
  replace oo:=owns_alloc hw oo
  replace mapm:=map_alloc hw mapm
  replace q3:=keep_alloc hw q3
  replace q4:=keep_alloc hw q4
  replace q5:=keep_alloc hw q5
  replace q7:=keep_alloc hw q7
  replace q8:=keep_alloc hw q8
  replace q9:=keep_alloc hw q9
  replace E:=ext_alloc E hw
  replace ER:=ext_alloc ER hw
  have q10:=new_row hw hn
  clear hw hn
  refine sq_to rfl rfl (R_storeRow rfl (F.at rfl) (F.at rfl) (by kernel_rfl) (by simp [tubC,Value.oneCell']) q10 rfl) ?_;intro w13 hw
  replace oo:=owns_cellsX hw oo o10_oo.out
  replace mapm:=map_cells hw mapm q10
  replace q3:=keep_cells hw q3 (by omega)
  replace q4:=keep_cells hw q4 (by omega)
  replace q5:=keep_cells hw q5 (by omega)
  replace q7:=keep_cells hw q7 (by omega)
  replace q8:=keep_cells hw q8 (by omega)
  replace q9:=keep_cells hw q9 (by omega)
  replace q10:=put_row hw q10 rfl
  replace E:=ext_cells E hw (fun h=>by first | exact absurd h (by omega) | simp)
  replace ER:=ext_cells ER hw (fun h=>by first | exact absurd h (by omega) | simp)
  clear hw
  refine wpList_nil ?_
  refine hK6 _ _ ?_
  clear hK6
  refine wpIn_seq_k fun K7 hK7=>?_
  refine wpIn_seq_k fun K8 hK8=>?_
  refine wpI_region_lit rfl (fun h=>by obtain ⟨_,_,h⟩:=h;exact h) ?_
  refine F.vl (R_load rfl (F.at rfl) Tryz.underlying113 rfl ((cells_of_block q8 0).trans (get0))) ?_;clear F fa;intro fa F
  refine F.vl (R_loadBlk rfl (F.at rfl) Tryz.underlying75 rfl (by kernel_rfl) q10) ?_;clear F fa;intro fa F
  refine sq_exv F rfl (by decide) rfl (R_lookupS rfl (F.at rfl) (F.at rfl) (low_s hqs hqg) mapm) ?_;clear F fa;rintro fa v' F ⟨c19,rfl,hc19⟩
  refine F.mv ?_;clear F fa;intro fa F
  cases hg1 : c19
  ·skip
   replace F:=F.re (k:=20) rfl (congrArg Value.bool hg1)
   refine F.vl (R_loadBlk rfl (F.at rfl) Tryz.underlying75 rfl (by kernel_rfl) q10) ?_ (hw:=(wantT F rfl rfl (by decide) rfl));clear F fa;intro fa F
   refine F.vl (R_loadBlk rfl (F.at rfl) Tryz.underlying75 rfl (by kernel_rfl) q9) ?_ (hw:=(wantT F rfl rfl (by decide) rfl));clear F fa;intro fa F
   refine F.vl ((R_neqTub rfl (F.at rfl) (F.at rfl))) ?_ (hw:=(wantT F rfl rfl (by decide) rfl));clear F fa;intro fa F
   refine F.vl (R_pickF rfl (F.at rfl) (F.at rfl)) ?_;clear F fa;intro fa F
   refine F.mv ?_;clear F fa;intro fa F
   cases hg2 : (!tubE (lowF (val q) (gcE (val q)) 4) (val q))
   ·skip
    replace F:=F.re (k:=25) rfl (congrArg Value.bool hg2)
    refine F.vl (R_loadBlk rfl (F.at rfl) Tryz.underlying69 rfl (by kernel_rfl) q3) ?_ (hw:=(wantT F rfl rfl (by decide) rfl));clear F fa;intro fa F
    refine F.vl (R_loadBlk rfl (F.at rfl) Tryz.underlying75 rfl (by kernel_rfl) q9) ?_ (hw:=(wantT F rfl rfl (by decide) rfl));clear F fa;intro fa F
    refine F.vl (R_load rfl (F.at rfl) Tryz.underlying25 rfl ((cells_of_block q4 0).trans (get0))) ?_ (hw:=(wantT F rfl rfl (by decide) rfl));clear F fa;intro fa F
    refine F.vl (R_load rfl (F.at rfl) Tryz.underlying25 rfl ((cells_of_block q5 0).trans (get0))) ?_ (hw:=(wantT F rfl rfl (by decide) rfl));clear F fa;intro fa F
    refine sq_call F rfl (by decide) (wantT F rfl rfl (by decide) rfl) (R_callV rfl rfl Tryz.call55 (mpS (F.at rfl) (mpS (F.at rfl) (mpS (F.at rfl) (mpS (F.at rfl) mp0))))) (match_ok x HV.out (val q) hqs s HS.out ls HL.out hll sa la sc lc _ (HX.out.ext E) (HR.out.ext E (by simp)) (HQ.out.ext E (by simp))) fun e w14 hR=>?_
    obtain ⟨rfl,e9⟩:=hR
    refine ⟨_,rfl,?_⟩;clear F fa;intro fa F
    replace oo:=owns_ext oo (e9) (by simp)
    replace mapm:=map_ext mapm (e9)
    replace q3:=(e9).keep0 q3
    replace q4:=(e9).keep0 q4
    replace q5:=(e9).keep0 q5
    replace q7:=(e9).keep0 q7
    replace q8:=(e9).keep0 q8
    replace q9:=(e9).keep0 q9
    replace q10:=(e9).keep0 q10
    replace E:=ext_same E (e9)
    replace ER:=ext_same ER (e9)
    clear e9
    refine F.vl (R_not rfl (F.at rfl)) ?_ (hw:=(wantT F rfl rfl (by decide) rfl));clear F fa;intro fa F
    refine F.vl (R_pickF rfl (F.at rfl) (F.at rfl)) ?_;clear F fa;intro fa F
    refine wpList_nil ?_
    refine hK8 _ _ ?_
    clear hK8
    refine cdI_b F rfl (fun hc32=>?_) (fun hc32=>?_)
    ·skip
     refine wpIn_exit ?_
     (try simp only [Exit.inBlock,reduceIte])
     show KeepsFrom _ _ _ ∧ KeepR _ _ _ _ ∧ _
     rw [← hw3]
     refine ⟨keeps_ext ER hrc,keepR_ext ER hkx ?_,?_⟩
     ·first | exact .inl ((rowOf_at q7).trans hro.symm) | (rcases hblk with hbk | hbk;(· exact .inl ((rowOf_at q7).trans (hbk.trans hro.symm)));(· exact .inr fun r' e=>by rw [rowOf_at q7,hbk] at e;cases e;exact hERs))
     ·have hsw : w3.heap.size ≤ w14.heap.size:=(by rw [hw3];exact Nat.le_trans hsz ER.size)
      show ∃ va vc,MatI _ _ _ _ _ _ _ _ _ _ _ (List.filter (cndE x (val s) ls) (pre ++ [q])) va vc _
      rw [hsn]
      first | exact mat_skip (cnd_gc (fun hg=>Bool.noConfusion ((hc19 (hfr hg)).symm.trans hg1))) ⟨q3,q4,q5,q7,q8,oo,mapm,E,hsw⟩ | exact mat_skip (cnd_gc (fun hg=>Bool.noConfusion ((low_tub hg).symm.trans hg2))) ⟨q3,q4,q5,q7,q8,oo,mapm,E,hsw⟩ | exact mat_skip (cnd_mat (bnot_t hc32)) ⟨q3,q4,q5,q7,q8,oo,mapm,E,hsw⟩ | exact mat_take (cnd_yes hgc (bnot_f hc32)) ⟨q3,q4,q5,q7,q8,oo,mapm,E,hsw⟩
    ·skip
     refine wpIn_skip ?_
     refine hK7 _ _ ?_
     clear hK7
     refine wpIn_seq_k fun K9 hK9=>?_
     refine wpI_region_lit rfl (fun h=>by obtain ⟨_,_,h⟩:=h;exact h) ?_
     refine F.vl (R_load rfl (F.at rfl) Tryz.underlying113 rfl ((cells_of_block q8 0).trans (get0))) ?_;clear F fa;intro fa F
     refine F.vl (R_loadBlk rfl (F.at rfl) Tryz.underlying75 rfl (by kernel_rfl) q10) ?_;clear F fa;intro fa F
     have hgc:=low_eq hqs hqg (by simpa using hg2)
     have htc : tubC (lowF (val q) (gcE (val q)) 4) = tubC (val q):=tub_congr fun k hk=>low_one hgc hk
     refine sq_exw rfl rfl (R_mapPutT (t:=q) rfl (F.at rfl) ((F.at rfl).trans (congrArg Value.agg htc)) (ev_c fa _) hqs hol mapm) ?_;rintro w15 ⟨hM',hg⟩
     replace oo:=owns_map mapm hg oo
     replace q3:=keep_map mapm hg q3
     replace q4:=keep_map mapm hg q4
     replace q5:=keep_map mapm hg q5
     replace q7:=keep_map mapm hg q7
     replace q8:=keep_map mapm hg q8
     replace q9:=keep_map mapm hg q9
     replace q10:=keep_map mapm hg q10
     replace E:=ext_mapX E hg (fun h=>by first | exact absurd h (by omega) | simp)
     replace ER:=ext_mapX ER hg (fun h=>by first | exact absurd h (by omega) | simp)
     replace mapm:=hM'
     clear hg
     refine wpList_nil ?_
     refine hK9 _ _ ?_
     clear hK9
     refine wpI_region_lit rfl (fun h=>by obtain ⟨_,_,h⟩:=h;exact h) ?_
     refine F.vl (R_load rfl (F.at rfl) Tryz.underlying72 rfl ((cells_of_block q7 0).trans (get0))) ?_;clear F fa;intro fa F
     refine F.vl (R_loadBlk rfl (F.at rfl) Tryz.underlying75 rfl (by kernel_rfl) q9) ?_;clear F fa;intro fa F
     refine sq_new F rfl (by decide) rfl (R_buildSliceV rfl (prS (F.at rfl) pr0) Tryz.underlying72 (size:=4) (by kernel_rfl) (by decide) (by decide) Tryz.zeroValue75 (cells:=#[.int .i64 (val q 0),.int .i64 (val q 1),.int .i64 (val q 2),.int .i64 (val q 3)]) (by kernel_rfl)) ?_;clear F fa;intro fa w16 F hw
     obtain ⟨n37,hn⟩ : ∃ n,n = w15.heap.size:=⟨_,rfl⟩
     rw [← hn] at F
     have s37 : w15.heap.size ≤ n37:=Nat.le_of_eq hn.symm
     have l37_E : w.heap.size ≤ n37:=by rw [hn];exact E.size
     have l37_ER : W.heap.size ≤ n37:=by rw [hn];exact ER.size
     have m37_3 : n3 < n37:=by rw [hn];exact blk_lt q3
     have m37_4 : n4 < n37:=by rw [hn];exact blk_lt q4
     have m37_5 : n5 < n37:=by rw [hn];exact blk_lt q5
     have m37_7 : n7 < n37:=by rw [hn];exact blk_lt q7
     have m37_8 : n8 < n37:=by rw [hn];exact blk_lt q8
     have m37_9 : nt < n37:=by rw [hn];exact blk_lt q9
     have m37_10 : n10 < n37:=by rw [hn];exact blk_lt q10
     have o37_oo:=Lib.hid (own_ne_new oo hn)
     replace oo:=owns_alloc hw oo
     replace mapm:=map_alloc hw mapm
     replace q3:=keep_alloc hw q3
     replace q4:=keep_alloc hw q4
     replace q5:=keep_alloc hw q5
     replace q7:=keep_alloc hw q7
     replace q8:=keep_alloc hw q8
     replace q9:=keep_alloc hw q9
     replace q10:=keep_alloc hw q10
     replace E:=ext_alloc E hw
     replace ER:=ext_alloc ER hw
     have q37:=new_block hw hn
     clear hw hn
     have hEs:=E.size
     have hERs:=ER.size
     refine sq_some F rfl (by decide) rfl (append_runB rfl (w.heap.size) (e:=75) (size:=4) (bytes:=32) Tryz.underlying72 (by kernel_rfl) (by decide) (F.at rfl) oo (F.at rfl) q37 rfl (by simp [Value.oneCell']) (by omega) (by omega) (by omega)) ?_;clear F fa;rintro fa v' w17 F ⟨hown',⟨hg,hblk⟩⟩
     obtain ⟨va38,vc38,rfl⟩:=owns_slice hown'
     replace q3:=keep_type oo hg q3 (by decide)
     replace q4:=keep_type oo hg q4 (by decide)
     replace q5:=keep_type oo hg q5 (by decide)
     replace q7:=keep_type oo hg q7 (by decide)
     replace q8:=keep_type oo hg q8 (by decide)
     replace q9:=(hg.block nt (blk_lt q9) o9_oo.out).trans q9
     replace q10:=(hg.block n10 (blk_lt q10) o10_oo.out).trans q10
     replace mapm:=map_own mapm oo hg
     replace E:=ext_appendX E oo hg (by omega)
     replace ER:=ext_grownX ER hg (fun b hb hl=>by rw [hrr b hb];simp)
     replace oo:=hown'
     clear hg
     rw [show tubsV out ++ [.int .i64 (val q 0),.int .i64 (val q 1),.int .i64 (val q 2),.int .i64 (val q 3)] = tubsV (out ++ [q]) from tubsV_snoc out q,show out.length + 1 = (out ++ [q]).length by simp] at oo
     rw [show out.length + 1 = (out ++ [q]).length by simp] at F hblk
     refine sq_to rfl rfl (R_store rfl (F.at rfl) (F.at rfl) rfl (by kernel_rfl) ((cells_of_block q7 0).trans (get0)) (free_of_block q7 0)) ?_;intro w18 hw
     replace oo:=owns_cellX hw oo (own_ne_type oo q7 (by decide))
     replace mapm:=map_cell hw mapm q7
     replace q3:=keep_cell hw q3 (by omega)
     replace q4:=keep_cell hw q4 (by omega)
     replace q5:=keep_cell hw q5 (by omega)
     replace q7:=put_cell hw q7 (by simp only [List.setIfInBounds_toArray,lsQ,lzQ];exact rfl)
     replace q8:=keep_cell hw q8 (by omega)
     replace q9:=keep_cell hw q9 (by omega)
     replace q10:=keep_cell hw q10 (by omega)
     replace E:=ext_cell E hw (fun h=>by first | exact absurd h (by omega) | simp)
     replace ER:=ext_cell ER hw (fun h=>by first | exact absurd h (by omega) | simp)
     clear hw
     refine wpList_nil ?_
     (try simp only [Exit.inBlock,reduceIte])
     show KeepsFrom _ _ _ ∧ KeepR _ _ _ _ ∧ _
     rw [← hw3]
     refine ⟨keeps_ext ER hrc,keepR_ext ER hkx ?_,?_⟩
     ·first | exact .inl ((rowOf_at q7).trans hro.symm) | (rcases hblk with hbk | hbk;(· exact .inl ((rowOf_at q7).trans (hbk.trans hro.symm)));(· exact .inr fun r' e=>by rw [rowOf_at q7,hbk] at e;cases e;exact hERs))
     ·have hsw : w3.heap.size ≤ w18.heap.size:=(by rw [hw3];exact Nat.le_trans hsz ER.size)
      show ∃ va vc,MatI _ _ _ _ _ _ _ _ _ _ _ (List.filter (cndE x (val s) ls) (pre ++ [q])) va vc _
      rw [hsn]
      first | exact mat_skip (cnd_gc (fun hg=>Bool.noConfusion ((hc19 (hfr hg)).symm.trans hg1))) ⟨q3,q4,q5,q7,q8,oo,mapm,E,hsw⟩ | exact mat_skip (cnd_gc (fun hg=>Bool.noConfusion ((low_tub hg).symm.trans hg2))) ⟨q3,q4,q5,q7,q8,oo,mapm,E,hsw⟩ | exact mat_skip (cnd_mat (bnot_t hc32)) ⟨q3,q4,q5,q7,q8,oo,mapm,E,hsw⟩ | exact mat_take (cnd_yes hgc (bnot_f hc32)) ⟨q3,q4,q5,q7,q8,oo,mapm,E,hsw⟩
   ·skip
    replace F:=F.re (k:=25) rfl (congrArg Value.bool hg2)
    refine sq_no F rfl (by decide) (wantF F rfl rfl (by decide) rfl (by decide)) ?_;clear F fa;intro fa F
    refine sq_no F rfl (by decide) (wantF F rfl rfl (by decide) rfl (by decide)) ?_;clear F fa;intro fa F
    refine sq_no F rfl (by decide) (wantF F rfl rfl (by decide) rfl (by decide)) ?_;clear F fa;intro fa F
    refine sq_no F rfl (by decide) (wantF F rfl rfl (by decide) rfl (by decide)) ?_;clear F fa;intro fa F
    refine sq_no F rfl (by decide) (wantF F rfl rfl (by decide) rfl (by decide)) ?_;clear F fa;intro fa F
    refine sq_no F rfl (by decide) (wantF F rfl rfl (by decide) rfl (by decide)) ?_;clear F fa;intro fa F
    refine F.vl (R_pickT rfl (F.at rfl) (ev_c fa _)) ?_;clear F fa;intro fa F
    refine wpList_nil ?_
    refine hK8 _ _ ?_
    clear hK8
    refine cdI_T F rfl ?_
    refine wpIn_exit ?_
    (try simp only [Exit.inBlock,reduceIte])
    show KeepsFrom _ _ _ ∧ KeepR _ _ _ _ ∧ _
    rw [← hw3]
    refine ⟨keeps_ext ER hrc,keepR_ext ER hkx ?_,?_⟩
    ·first | exact .inl ((rowOf_at q7).trans hro.symm) | (rcases hblk with hbk | hbk;(· exact .inl ((rowOf_at q7).trans (hbk.trans hro.symm)));(· exact .inr fun r' e=>by rw [rowOf_at q7,hbk] at e;cases e;exact hERs))
    ·have hsw : w3.heap.size ≤ w13.heap.size:=(by rw [hw3];exact Nat.le_trans hsz ER.size)
     show ∃ va vc,MatI _ _ _ _ _ _ _ _ _ _ _ (List.filter (cndE x (val s) ls) (pre ++ [q])) va vc _
     rw [hsn]
     first | exact mat_skip (cnd_gc (fun hg=>Bool.noConfusion ((hc19 (hfr hg)).symm.trans hg1))) ⟨q3,q4,q5,q7,q8,oo,mapm,E,hsw⟩ | exact mat_skip (cnd_gc (fun hg=>Bool.noConfusion ((low_tub hg).symm.trans hg2))) ⟨q3,q4,q5,q7,q8,oo,mapm,E,hsw⟩ | exact mat_skip (cnd_mat (bnot_t hc32)) ⟨q3,q4,q5,q7,q8,oo,mapm,E,hsw⟩ | exact mat_take (cnd_yes hgc (bnot_f hc32)) ⟨q3,q4,q5,q7,q8,oo,mapm,E,hsw⟩
  ·skip
   replace F:=F.re (k:=20) rfl (congrArg Value.bool hg1)
   refine sq_no F rfl (by decide) (wantF F rfl rfl (by decide) rfl (by decide)) ?_;clear F fa;intro fa F
   refine sq_no F rfl (by decide) (wantF F rfl rfl (by decide) rfl (by decide)) ?_;clear F fa;intro fa F
   refine sq_no F rfl (by decide) (wantF F rfl rfl (by decide) rfl (by decide)) ?_;clear F fa;intro fa F
   refine F.vl (R_pickT rfl (F.at rfl) (ev_c fa _)) ?_;clear F fa;intro fa F
   refine F.mv ?_;clear F fa;intro fa F
   refine sq_no F rfl (by decide) (wantF F rfl rfl (by decide) rfl (by decide)) ?_;clear F fa;intro fa F
   refine sq_no F rfl (by decide) (wantF F rfl rfl (by decide) rfl (by decide)) ?_;clear F fa;intro fa F
   refine sq_no F rfl (by decide) (wantF F rfl rfl (by decide) rfl (by decide)) ?_;clear F fa;intro fa F
   refine sq_no F rfl (by decide) (wantF F rfl rfl (by decide) rfl (by decide)) ?_;clear F fa;intro fa F
   refine sq_no F rfl (by decide) (wantF F rfl rfl (by decide) rfl (by decide)) ?_;clear F fa;intro fa F
   refine sq_no F rfl (by decide) (wantF F rfl rfl (by decide) rfl (by decide)) ?_;clear F fa;intro fa F
   refine F.vl (R_pickT rfl (F.at rfl) (ev_c fa _)) ?_;clear F fa;intro fa F
   refine wpList_nil ?_
   refine hK8 _ _ ?_
   clear hK8
   refine cdI_T F rfl ?_
   refine wpIn_exit ?_
   (try simp only [Exit.inBlock,reduceIte])
   show KeepsFrom _ _ _ ∧ KeepR _ _ _ _ ∧ _
   rw [← hw3]
   refine ⟨keeps_ext ER hrc,keepR_ext ER hkx ?_,?_⟩
   ·first | exact .inl ((rowOf_at q7).trans hro.symm) | (rcases hblk with hbk | hbk;(· exact .inl ((rowOf_at q7).trans (hbk.trans hro.symm)));(· exact .inr fun r' e=>by rw [rowOf_at q7,hbk] at e;cases e;exact hERs))
   ·have hsw : w3.heap.size ≤ w13.heap.size:=(by rw [hw3];exact Nat.le_trans hsz ER.size)
    show ∃ va vc,MatI _ _ _ _ _ _ _ _ _ _ _ (List.filter (cndE x (val s) ls) (pre ++ [q])) va vc _
    rw [hsn]
    first | exact mat_skip (cnd_gc (fun hg=>Bool.noConfusion ((hc19 (hfr hg)).symm.trans hg1))) ⟨q3,q4,q5,q7,q8,oo,mapm,E,hsw⟩ | exact mat_skip (cnd_gc (fun hg=>Bool.noConfusion ((low_tub hg).symm.trans hg2))) ⟨q3,q4,q5,q7,q8,oo,mapm,E,hsw⟩ | exact mat_skip (cnd_mat (bnot_t hc32)) ⟨q3,q4,q5,q7,q8,oo,mapm,E,hsw⟩ | exact mat_take (cnd_yes hgc (bnot_f hc32)) ⟨q3,q4,q5,q7,q8,oo,mapm,E,hsw⟩
 case done =>
  clear map11 q3 q4 q5 q7 q8 qb E hI0
  rintro D W hD ⟨va,vc,⟨q3,q4,q5,q7,q8,oo,mapm,E,hsz⟩⟩ qD
  obtain ⟨out,hout⟩ : ∃ out,out = matL x (val s) ls:=⟨_,rfl⟩
  rw [show (recL x.D.length).filter (cndE x (val s) ls) = out from hout.symm] at q7 oo mapm
  replace F:=F.mark (d:={ target:=.collected D,args:=#[] })
  refine hK4 _ _ ?_
  clear hK4
  refine wp_seq_k fun K10 hK10=>?_
  refine wp_region_lit ?_
  refine F.vl (R_load rfl (F.at rfl) Tryz.underlying72 rfl ((cells_of_block q7 0).trans (get0))) ?_;clear F fa;intro fa F
  refine F.as ?_;clear F fa;intro fa F
  refine wpList_nil ?_
  refine hK10 _ _ ?_
  clear hK10
  refine wp_ret ?_
  (try simp only [Exit.inBlock,Exit.then,reduceIte])
  refine rtM_v F ?_
  refine lv_mark qD fun w19 hw=>?_
  replace oo:=owns_put hw qD rfl oo
  replace mapm:=map_put hw qD mapm
  replace q3:=keep_putW hw qD rfl q3
  replace q4:=keep_putW hw qD rfl q4
  replace q5:=keep_putW hw qD rfl q5
  replace q7:=keep_putW hw qD rfl q7
  replace q8:=keep_putW hw qD rfl q8
  replace E:=ext_putW E hw (by omega)
  clear hw qD
  refine lv_nil (rs_1 F rfl rfl) ?_
  subst hout
  exact ⟨va,vc,rfl,oo,E⟩
end Go.Proofs.YtdjeecgddbjbeaaGreat
namespace Go.Proofs.YtdjeecgddbjbeaaGreat
open Go.RowKit
theorem isNaN_no (n : Int) (w : World) : Calls Tryz.prog 89 #[.int .i64 n] w fun e w'=>e = .returned (.bool false) ∧ Ext [] w w':=by
 have E : Ext [] w w:=Ext.refl _ _
 refine calls_has 6 Tryz.func89 rfl Tryz.ntmps89 (Nat.le_of_ble_eq_true rfl) ?_
 intro fa F
 refine wp_seq_k fun K1 hK1=>?_
 refine wp_region_lit ?_
 refine F.vl (R_assign rfl (ev_c fa _)) ?_;clear F fa;intro fa F
 refine wpList_nil ?_
 refine hK1 _ _ ?_
 clear hK1
 refine wp_seq_k fun K2 hK2=>?_
 refine wp_region_lit ?_
 refine F.mv ?_;clear F fa;intro fa F
 refine F.mv ?_;clear F fa;intro fa F
 refine F.vl (R_neqB (b:=false) rfl (F.at rfl) (F.at rfl) (decide_eq_true rfl)) ?_;clear F fa;intro fa F
 refine F.as ?_;clear F fa;intro fa F
 refine wpList_nil ?_
 refine hK2 _ _ ?_
 clear hK2
 refine wp_ret ?_
 (try simp only [Exit.inBlock,Exit.then,reduceIte])
 refine rt_v F (rs_1 F rfl rfl) ?_
 exact ⟨rfl,E⟩
def cmpE (a b : Int) : Int:=if a < b then -1 else if b < a then 1 else 0
theorem cmp_any (a b : Int) (w : World) : Calls Tryz.prog 61 #[.int .i64 a,.int .i64 b] w fun e w'=>e = .returned (.int .i64 (cmpE a b)) ∧ Ext [] w w':=by
 have E : Ext [] w w:=Ext.refl _ _
 refine calls_has 20 Tryz.func61 rfl Tryz.ntmps61 (Nat.le_of_ble_eq_true rfl) ?_
 intro fa F
 refine wp_seq_k fun K1 hK1=>?_
 refine wp_region_lit ?_
 refine F.vl (R_assign rfl (ev_c fa _)) ?_;clear F fa;intro fa F
 refine wpList_nil ?_
 refine hK1 _ _ ?_
 clear hK1
 refine wp_seq_k fun K2 hK2=>?_
 refine wp_region_lit ?_
 refine F.mv ?_;clear F fa;intro fa F
 refine sq_call F rfl (by decide) rfl (R_callV rfl rfl Tryz.call89 (mpS (F.at rfl) mp0)) (isNaN_no a _) fun e w1 hR=>?_
 obtain ⟨rfl,e9⟩:=hR
 refine ⟨_,rfl,?_⟩;clear F fa;intro fa F
 replace E:=ext_same E (e9)
 clear e9
 refine F.as ?_;clear F fa;intro fa F
 refine wpList_nil ?_
 refine hK2 _ _ ?_
 clear hK2
 refine wp_seq_k fun K3 hK3=>?_
 refine wp_region_lit ?_
 refine F.mv ?_;clear F fa;intro fa F
 refine sq_call F rfl (by decide) rfl (R_callV rfl rfl Tryz.call89 (mpS (F.at rfl) mp0)) (isNaN_no b _) fun e w2 hR=>?_
 obtain ⟨rfl,e9⟩:=hR
 refine ⟨_,rfl,?_⟩;clear F fa;intro fa F
 replace E:=ext_same E (e9)
 clear e9
 refine F.as ?_;clear F fa;intro fa F
 refine wpList_nil ?_
 refine hK3 _ _ ?_
 clear hK3
 refine wp_seq_k fun K4 hK4=>?_
 refine wp_seq_k fun K5 hK5=>?_
 refine wp_region_lit ?_
 refine F.mv ?_;clear F fa;intro fa F
 refine wpList_nil ?_
 refine hK5 _ _ ?_
 clear hK5
 refine cd_F F rfl ?_
 refine wp_skip ?_
 refine hK4 _ _ ?_
 clear hK4
 refine wp_seq_k fun K6 hK6=>?_
 refine wp_seq_k fun K7 hK7=>?_
 refine wp_region_lit ?_
 refine F.mv ?_;clear F fa;intro fa F
 refine wpList_nil ?_
 refine hK7 _ _ ?_
 clear hK7
 refine cd_F F rfl ?_
 refine wp_skip ?_
 refine hK6 _ _ ?_
 clear hK6
 refine wp_seq_k fun K8 hK8=>?_
 refine wp_seq_k fun K9 hK9=>?_
 refine wp_region_lit ?_
 refine F.mv ?_;clear F fa;intro fa F
 refine F.mv ?_;clear F fa;intro fa F
 refine F.vl (R_lss rfl (F.at rfl) (F.at rfl)) ?_;clear F fa;intro fa F
 refine wpList_nil ?_
 refine hK9 _ _ ?_
 clear hK9
 refine cd_if F rfl (fun hc16=>?_) (fun hc16=>?_)
 ·skip
  refine wp_seq_k fun K10 hK10=>?_
  refine wp_region_lit ?_
  refine F.vl (R_assign rfl (ev_c fa _)) ?_;clear F fa;intro fa F
  refine wpList_nil ?_
  refine hK10 _ _ ?_
  clear hK10
  refine wp_ret ?_
  (try simp only [Exit.inBlock,Exit.then,reduceIte])
  refine rt_v F (rs_1 F rfl rfl) ?_
  first | exact ⟨ret_int (by rw [cmpE,if_pos (by omega)]),E⟩ | exact ⟨ret_int (by rw [cmpE,if_neg (by omega),if_pos (by omega)]),E⟩ | exact ⟨ret_int (by rw [cmpE,if_neg (by omega),if_neg (by omega)]),E⟩
 ·skip
  refine wp_skip ?_
  refine hK8 _ _ ?_
  clear hK8
  refine wp_seq_k fun K11 hK11=>?_
  refine wp_seq_k fun K12 hK12=>?_
  refine wp_region_lit ?_
  refine F.mv ?_;clear F fa;intro fa F
  refine F.mv ?_;clear F fa;intro fa F
  refine F.vl (R_gtr rfl (F.at rfl) (F.at rfl)) ?_;clear F fa;intro fa F
  refine wpList_nil ?_
  refine hK12 _ _ ?_
  clear hK12
  refine cd_if F rfl (fun hc19=>?_) (fun hc19=>?_)
  ·skip
   refine wp_seq_k fun K13 hK13=>?_
   refine wp_region_lit ?_
   refine F.vl (R_assign rfl (ev_c fa _)) ?_;clear F fa;intro fa F
   refine wpList_nil ?_
   refine hK13 _ _ ?_
   clear hK13
   refine wp_ret ?_
   (try simp only [Exit.inBlock,Exit.then,reduceIte])
   refine rt_v F (rs_1 F rfl rfl) ?_
   first | exact ⟨ret_int (by rw [cmpE,if_pos (by omega)]),E⟩ | exact ⟨ret_int (by rw [cmpE,if_neg (by omega),if_pos (by omega)]),E⟩ | exact ⟨ret_int (by rw [cmpE,if_neg (by omega),if_neg (by omega)]),E⟩
  ·skip
   refine wp_skip ?_
   refine hK11 _ _ ?_
   clear hK11
   refine wp_seq_k fun K14 hK14=>?_
   refine wp_region_lit ?_
   refine F.vl (R_assign rfl (ev_c fa _)) ?_;clear F fa;intro fa F
   refine wpList_nil ?_
   refine hK14 _ _ ?_
   clear hK14
   refine wp_ret ?_
   (try simp only [Exit.inBlock,Exit.then,reduceIte])
   refine rt_v F (rs_1 F rfl rfl) ?_
   first | exact ⟨ret_int (by rw [cmpE,if_pos (by omega)]),E⟩ | exact ⟨ret_int (by rw [cmpE,if_neg (by omega),if_pos (by omega)]),E⟩ | exact ⟨ret_int (by rw [cmpE,if_neg (by omega),if_neg (by omega)]),E⟩
def cmpL : List Int → List Int → Int
 | [],[]=>0
 | [],_ :: _=>-1
 | _ :: _,[]=>1
 | x :: xs,y :: ys=>if cmpE x y = 0 then cmpL xs ys else cmpE x y
theorem cmpL_go {xs ys : List Int} {i : Nat} (hx : i < xs.length) (hy : i < ys.length) (h : cmpE (xs.getD i 0) (ys.getD i 0) = 0) : cmpL (xs.drop i) (ys.drop i) = cmpL (xs.drop (i + 1)) (ys.drop (i + 1)):=by
 rw [drop_getD xs 0 hx,drop_getD ys 0 hy,cmpL,if_pos h]
theorem cmpL_end {xs ys : List Int} {i : Nat} (hx : i < xs.length) (hy : i < ys.length) (h : cmpE (xs.getD i 0) (ys.getD i 0) ≠ 0) : cmpL (xs.drop i) (ys.drop i) = cmpE (xs.getD i 0) (ys.getD i 0):=by
 rw [drop_getD xs 0 hx,drop_getD ys 0 hy,cmpL,if_neg h]
theorem cmpL_long {xs ys : List Int} {i : Nat} (hx : i < xs.length) (hy : ys.length ≤ i) : cmpL (xs.drop i) (ys.drop i) = 1:=by
 rw [drop_getD xs 0 hx,List.drop_of_length_le hy];rfl
theorem cmpL_short {xs ys : List Int} {i : Nat} (hx : xs.length ≤ i) (hy : i < ys.length) : cmpL (xs.drop i) (ys.drop i) = -1:=by
 rw [drop_getD ys 0 hy,List.drop_of_length_le hx];rfl
theorem cmpL_same {xs ys : List Int} {i : Nat} (hx : xs.length ≤ i) (hy : ys.length ≤ i) : cmpL (xs.drop i) (ys.drop i) = 0:=by
 rw [List.drop_of_length_le hy,List.drop_of_length_le hx];rfl
set_option maxRecDepth 100000 in
theorem compare_any (xs ys : List Int) (a b : Option Addr) (c d : Nat) (w : World) (hx : IsRows w (.slice a xs.length c) 1 (xs.map intRow)) (hy : IsRows w (.slice b ys.length d) 1 (ys.map intRow)) (h1 : xs.length ≤ 1000) (h2 : ys.length ≤ 1000) :
  Calls Tryz.prog 68 #[.slice a xs.length c,.slice b ys.length d] w fun e w'=>e = .returned (.int .i64 (cmpL xs ys)) ∧ Ext [] w w':=by
 have HS:=Lib.hid (slAt_of_rows hx 0)
 have HU:=Lib.hid (slAt_of_rows hy 0)
 have E : Ext [] w w:=Ext.refl _ _
 clear hx hy
 refine calls_has 36 Tryz.func68 rfl Tryz.ntmps68 (Nat.le_of_ble_eq_true rfl) ?_
 intro fa F
 refine wp_seq_k fun K1 hK1=>?_
 refine wp_region_lit ?_
 refine F.vl (R_assign rfl (ev_c fa _)) ?_;clear F fa;intro fa F
 refine wpList_nil ?_
 refine hK1 _ _ ?_
 clear hK1
 refine wp_seq_k fun K2 hK2=>?_
 refine wp_seq_k fun K3 hK3=>?_
 refine wp_region_lit ?_
 refine F.mv ?_;clear F fa;intro fa F
 refine F.vl (R_len rfl rfl (F.at rfl) Tryz.underlying25) ?_;clear F fa;intro fa F
 refine F.vl (R_move rfl (ev_c fa _)) ?_;clear F fa;intro fa F
 refine wpList_nil ?_
 refine hK3 _ _ ?_
 clear hK3
 refine wp_block ?_
 have F0:=F.sub (.c 0 rfl (.c 1 rfl (.c 9 rfl (.c 10 rfl .n))))
 refine lp_for F0 (xs.length) (fun i Lv W=>Lv = [(11,.int .i64 ((i : Nat) : Int))] ∧ Ext [] w W ∧ cmpL (xs.drop i) (ys.drop i) = cmpL xs ys ∧ i ≤ ys.length) ⟨_,⟨rfl,E,rfl,(Nat.zero_le _)⟩,F.sub (.c 11 rfl (.c 0 rfl (.c 1 rfl (.c 9 rfl (.c 10 rfl .n)))))⟩ ?_
 clear F F0
 clear E
 rintro i _ fa w1 hi1 ⟨rfl,E,hc,hiy⟩ F
 refine wp_seq_k fun K4 hK4=>?_
 refine wp_region_lit ?_
 refine F.vl (R_lss rfl (F.at rfl) (F.at rfl)) ?_;clear F fa;intro fa F
 refine wpList_nil ?_
 refine hK4 _ _ ?_
 clear hK4
 refine wp_seq_k fun K5 hK5=>?_
 refine cd_if F rfl (fun hc12=>?_) (fun hc12=>?_)
 ·skip
  refine wp_skip ?_
  refine hK5 _ _ ?_
  clear hK5
  refine wp_seq_k fun K6 hK6=>?_
  refine wp_block ?_
  refine wp_seq_k fun K7 hK7=>?_
  refine wp_region_lit ?_
  refine F.mv ?_;clear F fa;intro fa F
  obtain ⟨xb8,xo8,xa8,xr8⟩:=HS.out i (by omega)
  refine F.vl (R_ixSlice (sz:=1) rfl ((F.at rfl).trans (xa8 _ _)) (F.at rfl) Tryz.underlying25 (by kernel_rfl) (by omega) (by omega)) ?_;clear F fa;intro fa F
  refine F.vl (R_load rfl (F.at rfl) Tryz.underlying3 rfl (xr8 _ E 0 _ rfl)) ?_;clear F fa;intro fa F
  refine F.as ?_;clear F fa;intro fa F
  refine F.as ?_;clear F fa;intro fa F
  refine wpList_nil ?_
  refine hK7 _ _ ?_
  clear hK7
  refine wp_seq_k fun K9 hK9=>?_
  refine wp_seq_k fun K10 hK10=>?_
  refine wp_region_lit ?_
  refine F.mv ?_;clear F fa;intro fa F
  refine F.mv ?_;clear F fa;intro fa F
  refine F.vl (R_len rfl rfl (F.at rfl) Tryz.underlying25) ?_;clear F fa;intro fa F
  refine F.vl (R_geq rfl (F.at rfl) (F.at rfl)) ?_;clear F fa;intro fa F
  refine wpList_nil ?_
  refine hK10 _ _ ?_
  clear hK10
  refine cd_if F rfl (fun hc19=>?_) (fun hc19=>?_)
  ·skip
   refine wp_seq_k fun K11 hK11=>?_
   refine wp_region_lit ?_
   refine F.vl (R_assign rfl (ev_c fa _)) ?_;clear F fa;intro fa F
   refine wpList_nil ?_
   refine hK11 _ _ ?_
   clear hK11
   refine wp_ret ?_
   (try simp only [Exit.inBlock,Exit.then,reduceIte])
   refine rt_v F (rs_1 F rfl rfl) ?_
   exact ⟨ret_int (by rw [← hc,cmpL_long (by omega) (by omega)]),E⟩
  ·skip
   refine wp_skip ?_
   refine hK9 _ _ ?_
   clear hK9
   refine wp_seq_k fun K12 hK12=>?_
   refine wp_region_lit ?_
   refine F.mv ?_;clear F fa;intro fa F
   refine F.mv ?_;clear F fa;intro fa F
   obtain ⟨xb13,xo13,xa13,xr13⟩:=HU.out i (by omega)
   refine F.vl (R_ixSlice (sz:=1) rfl ((F.at rfl).trans (xa13 _ _)) (F.at rfl) Tryz.underlying25 (by kernel_rfl) (by omega) (by omega)) ?_;clear F fa;intro fa F
   refine F.vl (R_load rfl (F.at rfl) Tryz.underlying3 rfl (xr13 _ E 0 _ rfl)) ?_;clear F fa;intro fa F
   refine F.as ?_;clear F fa;intro fa F
   refine wpList_nil ?_
   refine hK12 _ _ ?_
   clear hK12
   refine wp_seq_k fun K14 hK14=>?_
   refine wp_region_lit ?_
   refine F.mv ?_;clear F fa;intro fa F
   refine F.mv ?_;clear F fa;intro fa F
   refine sq_call F rfl (by decide) rfl (R_callV rfl rfl Tryz.call61 (mpS (F.at rfl) (mpS (F.at rfl) mp0))) (cmp_any (xs.getD i 0) (ys.getD i 0) _) fun e w2 hR=>?_
   obtain ⟨rfl,e9⟩:=hR
   refine ⟨_,rfl,?_⟩;clear F fa;intro fa F
   replace E:=ext_same E (e9)
   clear e9
   refine F.as ?_;clear F fa;intro fa F
   refine wpList_nil ?_
   refine hK14 _ _ ?_
   clear hK14
   refine wp_seq_k fun K15 hK15=>?_
   refine wp_region_lit ?_
   refine F.mv ?_;clear F fa;intro fa F
   refine F.vl (R_neqD rfl (F.at rfl) (ev_c fa _)) ?_;clear F fa;intro fa F
   refine wpList_nil ?_
   refine hK15 _ _ ?_
   clear hK15
   refine cd_if F rfl (fun hc28=>?_) (fun hc28=>?_)
   ·skip
    refine wp_seq_k fun K16 hK16=>?_
    refine wp_region_lit ?_
    refine F.mv ?_;clear F fa;intro fa F
    refine F.as ?_;clear F fa;intro fa F
    refine wpList_nil ?_
    refine hK16 _ _ ?_
    clear hK16
    refine wp_ret ?_
    (try simp only [Exit.inBlock,Exit.then,reduceIte])
    refine rt_v F (rs_1 F rfl rfl) ?_
    exact ⟨ret_int (by rw [← hc,cmpL_end (by omega) (by omega) hc28]),E⟩
   ·skip
    have hc28 : cmpE (xs.getD i 0) (ys.getD i 0) = 0:=by omega
    refine wp_skip ?_
    refine hK6 _ _ ?_
    clear hK6
    refine wp_region_lit ?_
    refine F.vl (R_add rfl (F.at rfl) (ev_c fa _) (by omega) (by omega)) ?_;clear F fa;intro fa F
    refine F.mv ?_;clear F fa;intro fa F
    refine wpList_nil ?_
    show _ ∧ _
    exact ⟨by omega,_,⟨rfl,E,((cmpL_go (by omega) (by omega) hc28).symm.trans hc),(by omega)⟩,F.sub (.c 11 rfl (.c 0 rfl (.c 1 rfl (.c 9 rfl (.c 10 rfl .n)))))⟩
 ·skip
  refine wp_exit ?_
  refine hK2 _ _ ?_
  clear hK2
  refine wp_seq_k fun K17 hK17=>?_
  refine wp_seq_k fun K18 hK18=>?_
  refine wp_region_lit ?_
  refine F.mv ?_;clear F fa;intro fa F
  refine F.vl (R_len rfl rfl (F.at rfl) Tryz.underlying25) ?_;clear F fa;intro fa F
  refine F.mv ?_;clear F fa;intro fa F
  refine F.vl (R_len rfl rfl (F.at rfl) Tryz.underlying25) ?_;clear F fa;intro fa F
  refine F.vl (R_lss rfl (F.at rfl) (F.at rfl)) ?_;clear F fa;intro fa F
  refine wpList_nil ?_
  refine hK18 _ _ ?_
  clear hK18
  refine cd_if F rfl (fun hc35=>?_) (fun hc35=>?_)
  ·skip
   refine wp_seq_k fun K19 hK19=>?_
   refine wp_region_lit ?_
   refine F.vl (R_assign rfl (ev_c fa _)) ?_;clear F fa;intro fa F
   refine wpList_nil ?_
   refine hK19 _ _ ?_
   clear hK19
   refine wp_ret ?_
   (try simp only [Exit.inBlock,Exit.then,reduceIte])
   refine rt_v F (rs_1 F rfl rfl) ?_
   exact ⟨ret_int (by rw [← hc,cmpL_short (by omega) (by omega)]),E⟩
  ·skip
   refine wp_skip ?_
   refine hK17 _ _ ?_
   clear hK17
   refine wp_seq_k fun K20 hK20=>?_
   refine wp_region_lit ?_
   refine F.vl (R_assign rfl (ev_c fa _)) ?_;clear F fa;intro fa F
   refine wpList_nil ?_
   refine hK20 _ _ ?_
   clear hK20
   refine wp_ret ?_
   (try simp only [Exit.inBlock,Exit.then,reduceIte])
   refine rt_v F (rs_1 F rfl rfl) ?_
   exact ⟨ret_int (by rw [← hc,cmpL_same (by omega) (by omega)]),E⟩
def noP (Q : Exit → Act → World → Prop) : Exit → Act → World → Prop:=fun e a w=>match e with
 | .panic _=>False
 | e=>Q e a w
section
variable {P : Program} {Q : Exit → Act → World → Prop} {a : Act} {w : World} {md : Region.Mode} {ops : Array Oper} {T : World → Prop} {stop : Option Nat} {listed : Array Bool}
theorem region_xN {l : List Oper} {id : Nat} (T : World → Prop) (stop : Option Nat) (hm : P.follows .mixedOrders = true)
  (h : ∀ W : World,W.heap = w.heap → Ext [] w W → wpAnyX P .any l.toArray (noP Q) T stop l.toArray.size (Array.replicate l.toArray.size false) a W) : (Code.region id l.toArray true).wp P Q a w:=
 Code.wp_mono (fun e a w h=>by cases e <;> first | exact h | exact h.elim) (region_x T stop hm h)
theorem ax_doneN (hr : Region.ready md ops listed = []) (h : Q .normal a w) (fuel : Nat) : wpAnyX P md ops (noP Q) T stop fuel listed a w:=ax_done (Q:=noP Q) hr h fuel
end
section
variable {P : Program} {ρ : Operand → Value} {o : Oper} {w : World}
theorem R_sliceOff {x : Operand} {t : TypeId} {b f n : Nat} (ho : o.op = .slice t x none none none) (hx : ρ x = .pointer (some ⟨b,f,none⟩)) (hu : P.underlying t = some (.array (P.arrayLen t) (P.elem t))) (hs : (P.info? (P.elem t)).map (·.size) = some 1) (hn : P.arrayLen t = n) :
  (execOp ρ o).run P w = .ok (.value (.slice (some ⟨b,f,none⟩) n n)) w:=by
 have h0 : (sizeOf (P.elem t)).run P w = .ok 1 w:=by
  generalize P.elem t = e at hs
  cases hq : P.info? e with
  | none=>simp [hq] at hs
  | some j =>
   have hj : j.size = 1:=by simpa [hq] using hs
   simp [sizeOf,typeInfo,hq,hj]
 have hr:=run_sliceAt_array_all (P:=P) w t ⟨b,f,none⟩ hu
 rw [h0,hn] at hr
 simp only [Result.andThen_ok,slicedAt,Nat.zero_mul,Nat.sub_zero] at hr
 have ha : (if n = 0 then (⟨b,f,none⟩ : Addr) else Addr.add ⟨b,f,none⟩ 0) = ⟨b,f,none⟩:=by split <;> rfl
 rw [ha] at hr
 clear hu hs hn h0 ha
 unfold execOp
 simp only [ho,hx,Option.map_none,Sem.run_bind,hr,Result.andThen_ok,Sem.run_pure]
end
theorem rows_mid {w : World} {b off : Nat} {C : Array Value} {T : TypeId} {fz : Nat × Nat} (xs : List Int) (cap : Nat) (h : w.heap[b]? = some (.cells C T fz)) (hc : ∀ j,j < xs.length → C[off + j]? = some (.int .i64 (xs.getD j 0))) : IsRows w (.slice (some ⟨b,off,none⟩) xs.length cap) 1 (xs.map intRow):=by
 refine ⟨some ⟨b,off,none⟩,cap,by simp,by simp [intRow],fun _=>⟨b,off,rfl,blk_lt h,fun i j x hi hj=>?_⟩⟩
 obtain rfl : j = 0:=by omega
 rw [cells_of_block h]
 simp only [List.getElem?_map,Option.map_eq_some_iff] at hi
 obtain ⟨y,hy,rfl⟩:=hi
 obtain ⟨h1,h2⟩:=List.getElem?_eq_some_iff.1 hy
 rw [Nat.mul_one,Nat.add_zero,hc i h1]
 simp [intRow,h1,h2]
def setL : List Value → Nat → List Value → List Value
 | xs,_,[]=>xs
 | xs,j,v :: vs=>setL (xs.set j v) (j + 1) vs
theorem put_midL {b : Nat} {T : TypeId} : ∀ {vs : List Value} {w w2 : World} {off : Nat} {C C' : Array Value},w2 = w.setCells b off vs → w.heap[b]? = some (.cells C T (0,0)) → C' = (setL C.toList off vs).toArray → w2.heap[b]? = some (.cells C' T (0,0))
 | [],w,w2,off,C,C',e,H,h=>by rw [e,h];simpa [World.setCells,setL] using H
 | v :: vs,w,w2,off,C,C',e,H,h=>by
  have h1:=put_cell (w2:=w.setCell ⟨b,off,none⟩ v) rfl H rfl
  exact put_midL (w:=w.setCell ⟨b,off,none⟩ v) (off:=off + 1) e h1 (by rw [h,setL,Array.toList_setIfInBounds])
def nearC (f : Nat → Int) (a b : Int) (s : Bool) : Array Value:=#[.int .i64 (f 0),.int .i64 (f 1),.int .i64 (f 2),.int .i64 (f 3),.int .i64 a,.int .i64 b,.bool s]
set_option maxRecDepth 100000 in
theorem offer_new (nb : Nat) (g f : Nat → Int) (c d a b : Int) (w : World) (hq : w.heap[nb]? = some (.cells (nearC g c d false) 81 (0,0))) :
  Calls Tryz.prog 47 #[.pointer (some ⟨nb,0,none⟩),.agg #[.int .i64 (f 0),.int .i64 (f 1),.int .i64 (f 2),.int .i64 (f 3)],.agg #[.int .i64 a,.int .i64 b]] w fun e w'=>e = .returned (.tuple #[]) ∧ w'.heap[nb]? = some (.cells (nearC f a b true) 81 (0,0)) ∧ Ext [nb] w w':=by
 have E : Ext [nb] w w:=Ext.refl _ _
 have qn : w.heap[nb]? = some (.cells #[.int .i64 (g 0),.int .i64 (g 1),.int .i64 (g 2),.int .i64 (g 3),.int .i64 c,.int .i64 d,.bool false] 81 (0,0)):=hq
 clear hq
 refine calls_has 31 Tryz.func47 rfl Tryz.ntmps47 (Nat.le_of_ble_eq_true rfl) ?_
 intro fa F
 refine wp_seq_k fun K1 hK1=>?_
 refine wp_region_lit ?_
 refine sq_new F rfl (by decide) rfl (R_box rfl (F.at rfl)) ?_;clear F fa;intro fa w1 F hw
 obtain ⟨n4,hn⟩ : ∃ n,n = w.heap.size:=⟨_,rfl⟩
 rw [← hn] at F
 have s4 : w.heap.size ≤ n4:=Nat.le_of_eq hn.symm
 have l4_E : w.heap.size ≤ n4:=by rw [hn];exact E.size
 have m4_n : nb < n4:=by rw [hn];exact blk_lt qn
 replace qn:=keep_alloc hw qn
 replace E:=ext_alloc E hw
 have q4:=new_row hw hn
 clear hw hn
 refine sq_new F rfl (by decide) rfl (R_box rfl (F.at rfl)) ?_;clear F fa;intro fa w2 F hw
 obtain ⟨n5,hn⟩ : ∃ n,n = w1.heap.size:=⟨_,rfl⟩
 rw [← hn] at F
 have s5 : w1.heap.size ≤ n5:=Nat.le_of_eq hn.symm
 have l5_E : w.heap.size ≤ n5:=by rw [hn];exact E.size
 have m5_n : nb < n5:=by rw [hn];exact blk_lt qn
 have m5_4 : n4 < n5:=by rw [hn];exact blk_lt q4
 replace qn:=keep_alloc hw qn
 replace q4:=keep_alloc hw q4
 replace E:=ext_alloc E hw
 have q5:=new_row hw hn
 clear hw hn
 refine wpList_nil ?_
 refine hK1 _ _ ?_
 clear hK1
 refine wp_seq_k fun K2 hK2=>?_
 refine wp_region_st 11 follows (by kernel_rfl) fun w3 hh eh=>?_
 replace qn:=keep_same hh qn
 replace q4:=keep_same hh q4
 replace q5:=keep_same hh q5
 replace E:=ext_same E eh
 clear hh eh
 refine F.smv ?_;clear F fa;intro fa F
 refine F.sv (R_nilCheck rfl (F.at rfl)) ?_;clear F fa;intro fa F
 refine F.sv (R_field rfl (F.at rfl) Tryz.underlying81 rfl (n:=6) (sz:=1) rfl (by kernel_rfl) (by decide)) ?_;clear F fa;intro fa F
 refine F.sv (R_load rfl (F.at rfl) Tryz.underlying4 rfl ((cells_of_block qn 6).trans (getS (getS (getS (getS (getS (getS (get0))))))))) ?_;clear F fa;intro fa F
 refine F.sv (R_not rfl (F.at rfl)) ?_;clear F fa;intro fa F
 refine F.smv ?_;clear F fa;intro fa F
 refine st_no F rfl (by decide) (wantF F rfl rfl (by decide) rfl (by decide)) ?_;clear F fa;intro fa F
 refine st_no F rfl (by decide) (wantF F rfl rfl (by decide) rfl (by decide)) ?_;clear F fa;intro fa F
 refine st_no F rfl (by decide) (wantF F rfl rfl (by decide) rfl (by decide)) ?_;clear F fa;intro fa F
 refine st_no F rfl (by decide) (wantF F rfl rfl (by decide) rfl (by decide)) ?_;clear F fa;intro fa F
 refine st_no F rfl (by decide) (wantF F rfl rfl (by decide) rfl (by decide)) ?_;clear F fa;intro fa F
 refine wpStill_nil ?_
 refine sq_no F rfl (by decide) (wantF F rfl rfl (by decide) rfl (by decide)) ?_;clear F fa;intro fa F
 refine sq_no F rfl (by decide) (wantF F rfl rfl (by decide) rfl (by decide)) ?_;clear F fa;intro fa F
 refine F.vl (R_pickT rfl (F.at rfl) (ev_c fa _)) ?_;clear F fa;intro fa F
 refine wpList_nil ?_
 refine hK2 _ _ ?_
 clear hK2
 refine cd_T F rfl ?_
 refine wp_region_lit ?_
 refine F.mv ?_;clear F fa;intro fa F
 refine F.mv ?_;clear F fa;intro fa F
 refine F.mv ?_;clear F fa;intro fa F
 refine F.vl (R_loadBlk rfl (F.at rfl) Tryz.underlying75 rfl (by kernel_rfl) q4) ?_;clear F fa;intro fa F
 refine F.vl (R_loadBlk rfl (F.at rfl) Tryz.underlying79 rfl (by kernel_rfl) q5) ?_;clear F fa;intro fa F
 refine F.vl (R_nilCheck rfl (F.at rfl)) ?_;clear F fa;intro fa F
 refine F.vl (R_field rfl (F.at rfl) Tryz.underlying81 rfl (n:=0) (sz:=4) rfl (by kernel_rfl) (by decide)) ?_;clear F fa;intro fa F
 refine sq_to rfl rfl (R_storeMid rfl (F.at rfl) (F.at rfl) (by kernel_rfl) (by simp [Value.oneCell']) qn (by simp)) ?_;intro w4 hw
 replace qn : w4.heap[nb]? = some (.cells #[.int .i64 (f 0),.int .i64 (f 1),.int .i64 (f 2),.int .i64 (f 3),.int .i64 c,.int .i64 d,.bool false] 81 (0,0)):=put_midL hw qn rfl
 replace q4:=keep_cells hw q4 (by omega)
 replace q5:=keep_cells hw q5 (by omega)
 replace E:=ext_cells E hw (fun h=>by first | exact absurd h (by omega) | simp)
 clear hw
 refine F.vl (R_nilCheck rfl (F.at rfl)) ?_;clear F fa;intro fa F
 refine F.vl (R_field rfl (F.at rfl) Tryz.underlying81 rfl (n:=4) (sz:=2) rfl (by kernel_rfl) (by decide)) ?_;clear F fa;intro fa F
 refine sq_to rfl rfl (R_storeMid rfl (F.at rfl) (F.at rfl) (by kernel_rfl) (by simp [Value.oneCell']) qn (by simp)) ?_;intro w5 hw
 replace qn:=put_mid2 hw qn (by simp only [List.setIfInBounds_toArray,lsQ,lzQ];exact rfl)
 replace q4:=keep_cells hw q4 (by omega)
 replace q5:=keep_cells hw q5 (by omega)
 replace E:=ext_cells E hw (fun h=>by first | exact absurd h (by omega) | simp)
 clear hw
 refine F.vl (R_nilCheck rfl (F.at rfl)) ?_;clear F fa;intro fa F
 refine F.vl (R_field rfl (F.at rfl) Tryz.underlying81 rfl (n:=6) (sz:=1) rfl (by kernel_rfl) (by decide)) ?_;clear F fa;intro fa F
 refine sq_to rfl rfl (R_store rfl (F.at rfl) (ev_c fa _) rfl (by kernel_rfl) ((cells_of_block qn 6).trans (getS (getS (getS (getS (getS (getS (get0)))))))) (free_of_block qn 6)) ?_;intro w6 hw
 replace qn:=put_cell hw qn (by simp only [List.setIfInBounds_toArray,lsQ,lzQ];exact rfl)
 replace q4:=keep_cell hw q4 (by omega)
 replace q5:=keep_cell hw q5 (by omega)
 replace E:=ext_cell E hw (fun h=>by first | exact absurd h (by omega) | simp)
 clear hw
 refine wpList_nil ?_
 (try simp only [Exit.inBlock,Exit.then,reduceIte])
 refine rt_vn F (rs_0 rfl) ?_
 exact ⟨rfl,qn,E⟩
set_option maxRecDepth 100000 in
theorem offer_old (nb : Nat) (g f : Nat → Int) (c d a b : Int) (w : World) (hq : w.heap[nb]? = some (.cells (nearC g c d true) 81 (0,0))) :
  Calls Tryz.prog 47 #[.pointer (some ⟨nb,0,none⟩),.agg #[.int .i64 (f 0),.int .i64 (f 1),.int .i64 (f 2),.int .i64 (f 3)],.agg #[.int .i64 a,.int .i64 b]] w fun e w'=>e = .returned (.tuple #[]) ∧ w'.heap[nb]? = some (.cells (if cmpL [a,b] [c,d] < 0 then nearC f a b true else nearC g c d true) 81 (0,0)) ∧ Ext [nb] w w':=by
 have E : Ext [nb] w w:=Ext.refl _ _
 have qn : w.heap[nb]? = some (.cells #[.int .i64 (g 0),.int .i64 (g 1),.int .i64 (g 2),.int .i64 (g 3),.int .i64 c,.int .i64 d,.bool true] 81 (0,0)):=hq
 clear hq
 refine calls_has 31 Tryz.func47 rfl Tryz.ntmps47 (Nat.le_of_ble_eq_true rfl) ?_
 intro fa F
 refine wp_seq_k fun K1 hK1=>?_
 refine wp_region_lit ?_
 refine sq_new F rfl (by decide) rfl (R_box rfl (F.at rfl)) ?_;clear F fa;intro fa w1 F hw
 obtain ⟨n4,hn⟩ : ∃ n,n = w.heap.size:=⟨_,rfl⟩
 rw [← hn] at F
 have s4 : w.heap.size ≤ n4:=Nat.le_of_eq hn.symm
 have l4_E : w.heap.size ≤ n4:=by rw [hn];exact E.size
 have m4_n : nb < n4:=by rw [hn];exact blk_lt qn
 replace qn:=keep_alloc hw qn
 replace E:=ext_alloc E hw
 have q4:=new_row hw hn
 clear hw hn
 refine sq_new F rfl (by decide) rfl (R_box rfl (F.at rfl)) ?_;clear F fa;intro fa w2 F hw
 obtain ⟨n5,hn⟩ : ∃ n,n = w1.heap.size:=⟨_,rfl⟩
 rw [← hn] at F
 have s5 : w1.heap.size ≤ n5:=Nat.le_of_eq hn.symm
 have l5_E : w.heap.size ≤ n5:=by rw [hn];exact E.size
 have m5_n : nb < n5:=by rw [hn];exact blk_lt qn
 have m5_4 : n4 < n5:=by rw [hn];exact blk_lt q4
 replace qn:=keep_alloc hw qn
 replace q4:=keep_alloc hw q4
 replace E:=ext_alloc E hw
 have q5:=new_row hw hn
 clear hw hn
 refine wpList_nil ?_
 refine hK1 _ _ ?_
 clear hK1
 refine wp_seq_k fun K2 hK2=>?_
 refine wp_region_st 11 follows (by kernel_rfl) fun w3 hh eh=>?_
 replace qn:=keep_same hh qn
 replace q4:=keep_same hh q4
 replace q5:=keep_same hh q5
 replace E:=ext_same E eh
 clear hh eh
 refine F.smv ?_;clear F fa;intro fa F
 refine F.sv (R_nilCheck rfl (F.at rfl)) ?_;clear F fa;intro fa F
 refine F.sv (R_field rfl (F.at rfl) Tryz.underlying81 rfl (n:=6) (sz:=1) rfl (by kernel_rfl) (by decide)) ?_;clear F fa;intro fa F
 refine F.sv (R_load rfl (F.at rfl) Tryz.underlying4 rfl ((cells_of_block qn 6).trans (getS (getS (getS (getS (getS (getS (get0))))))))) ?_;clear F fa;intro fa F
 refine F.sv (R_not rfl (F.at rfl)) ?_;clear F fa;intro fa F
 refine F.smv ?_;clear F fa;intro fa F
 refine F.sv ((R_sliceAll (n:=2) rfl (F.at rfl) (by kernel_rfl) (by kernel_rfl) (by kernel_rfl))) ?_ (hw:=(wantT F rfl rfl (by decide) rfl));clear F fa;intro fa F
 refine F.smv ?_ (hw:=(wantT F rfl rfl (by decide) rfl));clear F fa;intro fa F
 refine F.sv (R_nilCheck rfl (F.at rfl)) ?_ (hw:=(wantT F rfl rfl (by decide) rfl));clear F fa;intro fa F
 refine F.sv (R_field rfl (F.at rfl) Tryz.underlying81 rfl (n:=4) (sz:=2) rfl (by kernel_rfl) (by decide)) ?_ (hw:=(wantT F rfl rfl (by decide) rfl));clear F fa;intro fa F
 refine F.sv ((R_sliceOff (n:=2) rfl (F.at rfl) (by kernel_rfl) (by kernel_rfl) (by kernel_rfl))) ?_ (hw:=(wantT F rfl rfl (by decide) rfl));clear F fa;intro fa F
 refine wpStill_nil ?_
 refine sq_call F rfl (by decide) (wantT F rfl rfl (by decide) rfl) (R_callV rfl rfl Tryz.call68 (mpS (F.at rfl) (mpS (F.at rfl) mp0))) (compare_any [a,b] [c,d] (some ⟨n5,0,none⟩) (some ⟨nb,4,none⟩) 2 2 _ (rows_lit [a,b] 2 q5) (rows_mid [c,d] 2 qn (fun j hj=>by rcases j with _ | _ | j;(· rfl);(· rfl);(· simp at hj;omega))) (by simp) (by simp)) fun e w4 hR=>?_
 obtain ⟨rfl,e9⟩:=hR
 refine ⟨_,rfl,?_⟩;clear F fa;intro fa F
 replace qn:=(e9).keep0 qn
 replace q4:=(e9).keep0 q4
 replace q5:=(e9).keep0 q5
 replace E:=ext_same E (e9)
 clear e9
 refine F.vl (R_lss rfl (F.at rfl) (ev_c fa _)) ?_ (hw:=(wantT F rfl rfl (by decide) rfl));clear F fa;intro fa F
 refine F.vl (R_pickF rfl (F.at rfl) (F.at rfl)) ?_;clear F fa;intro fa F
 refine wpList_nil ?_
 refine hK2 _ _ ?_
 clear hK2
 refine cd_if F rfl (fun hc19=>?_) (fun hc19=>?_)
 ·skip
  refine wp_region_lit ?_
  refine F.mv ?_;clear F fa;intro fa F
  refine F.mv ?_;clear F fa;intro fa F
  refine F.mv ?_;clear F fa;intro fa F
  refine F.vl (R_loadBlk rfl (F.at rfl) Tryz.underlying75 rfl (by kernel_rfl) q4) ?_;clear F fa;intro fa F
  refine F.vl (R_loadBlk rfl (F.at rfl) Tryz.underlying79 rfl (by kernel_rfl) q5) ?_;clear F fa;intro fa F
  refine F.vl (R_nilCheck rfl (F.at rfl)) ?_;clear F fa;intro fa F
  refine F.vl (R_field rfl (F.at rfl) Tryz.underlying81 rfl (n:=0) (sz:=4) rfl (by kernel_rfl) (by decide)) ?_;clear F fa;intro fa F
  refine sq_to rfl rfl (R_storeMid rfl (F.at rfl) (F.at rfl) (by kernel_rfl) (by simp [Value.oneCell']) qn (by simp)) ?_;intro w5 hw
  replace qn : w5.heap[nb]? = some (.cells #[.int .i64 (f 0),.int .i64 (f 1),.int .i64 (f 2),.int .i64 (f 3),.int .i64 c,.int .i64 d,.bool true] 81 (0,0)):=put_midL hw qn rfl
  replace q4:=keep_cells hw q4 (by omega)
  replace q5:=keep_cells hw q5 (by omega)
  replace E:=ext_cells E hw (fun h=>by first | exact absurd h (by omega) | simp)
  clear hw
  refine F.vl (R_nilCheck rfl (F.at rfl)) ?_;clear F fa;intro fa F
  refine F.vl (R_field rfl (F.at rfl) Tryz.underlying81 rfl (n:=4) (sz:=2) rfl (by kernel_rfl) (by decide)) ?_;clear F fa;intro fa F
  refine sq_to rfl rfl (R_storeMid rfl (F.at rfl) (F.at rfl) (by kernel_rfl) (by simp [Value.oneCell']) qn (by simp)) ?_;intro w6 hw
  replace qn:=put_mid2 hw qn (by simp only [List.setIfInBounds_toArray,lsQ,lzQ];exact rfl)
  replace q4:=keep_cells hw q4 (by omega)
  replace q5:=keep_cells hw q5 (by omega)
  replace E:=ext_cells E hw (fun h=>by first | exact absurd h (by omega) | simp)
  clear hw
  refine F.vl (R_nilCheck rfl (F.at rfl)) ?_;clear F fa;intro fa F
  refine F.vl (R_field rfl (F.at rfl) Tryz.underlying81 rfl (n:=6) (sz:=1) rfl (by kernel_rfl) (by decide)) ?_;clear F fa;intro fa F
  refine sq_to rfl rfl (R_store rfl (F.at rfl) (ev_c fa _) rfl (by kernel_rfl) ((cells_of_block qn 6).trans (getS (getS (getS (getS (getS (getS (get0)))))))) (free_of_block qn 6)) ?_;intro w7 hw
  replace qn:=put_cell hw qn (by simp only [List.setIfInBounds_toArray,lsQ,lzQ];exact rfl)
  replace q4:=keep_cell hw q4 (by omega)
  replace q5:=keep_cell hw q5 (by omega)
  replace E:=ext_cell E hw (fun h=>by first | exact absurd h (by omega) | simp)
  clear hw
  refine wpList_nil ?_
  (try simp only [Exit.inBlock,Exit.then,reduceIte])
  refine rt_vn F (rs_0 rfl) ?_
  exact ⟨rfl,(by rw [if_pos hc19];exact qn),E⟩
 ·skip
  refine wp_skip ?_
  (try simp only [Exit.inBlock,Exit.then,reduceIte])
  refine rt_vn F (rs_0 rfl) ?_
  exact ⟨rfl,(by rw [if_neg hc19];exact qn),E⟩
section
variable {α : Type} (g : α → Nat → Int) (c : α → Int × Int)
def offO : Option α → α → Option α
 | none,t=>some t
 | some u,t=>if cmpL [(c t).1,(c t).2] [(c u).1,(c u).2] < 0 then some t else some u
def pickO (l : List α) : Option α:=l.foldl (offO c) none
def nearO : Option α → Array Value
 | none=>nearC zf 0 0 false
 | some t=>nearC (g t) (c t).1 (c t).2 true
theorem pick_snoc (l : List α) (t : α) : pickO c (l ++ [t]) = offO c (pickO c l) t:=by simp [pickO]
end
theorem offer_any {α : Type} (g : α → Nat → Int) (c : α → Int × Int) (nb : Nat) (o : Option α) (t : α) (w : World) (hq : w.heap[nb]? = some (.cells (nearO g c o) 81 (0,0))) :
  Calls Tryz.prog 47 #[.pointer (some ⟨nb,0,none⟩),.agg #[.int .i64 (g t 0),.int .i64 (g t 1),.int .i64 (g t 2),.int .i64 (g t 3)],.agg #[.int .i64 (c t).1,.int .i64 (c t).2]] w fun e w'=>e = .returned (.tuple #[]) ∧ w'.heap[nb]? = some (.cells (nearO g c (offO c o t)) 81 (0,0)) ∧ Ext [nb] w w':=by
 cases o with
 | none=>exact offer_new nb zf (g t) 0 0 (c t).1 (c t).2 w hq
 | some u =>
  refine Calls.mono (offer_old nb (g u) (g t) (c u).1 (c u).2 (c t).1 (c t).2 w hq) ?_
  rintro e w' ⟨h1,h2,h3⟩
  refine ⟨h1,?_,h3⟩
  rw [h2,offO]
  split <;> rfl
def dyeN (f : Nat → Int) (n : Nat) : Int:=sumTo (fun k=>min (f k) 1) n
def cF (t : List Int) : Int × Int:=(dyeN (val t) 4,prt (val t))
def fewR (x : Vm) (s : Nat → Int) (ls : List Int) : List Int × Int:=match pickO cF (matL x s ls) with
 | none=>([],11)
 | some t=>(cutL (val t) x.D.length,0)
def IntsPost (r : List Int × Int) (w : World) (e : Ending) (w' : World) : Prop:=∃ a c,e = .returned (.tuple #[.slice a r.1.length c,.int .i64 r.2]) ∧ w'.ownsRow w.heap.size 3 1 (.slice a r.1.length c) r.1.length (ivs r.1) ∧ Ext [] w w'
theorem pick_mem {α : Type} {c : α → Int × Int} {l : List α} {t : α} (h : pickO c l = some t) : t ∈ l:=by
 have key : ∀ (l : List α) (o : Option α),l.foldl (offO c) o = some t → t ∈ l ∨ o = some t:=by
  intro l
  induction l with
  | nil=>intro o h;exact .inr h
  | cons x l ih =>
   intro o h
   rcases ih _ h with h | h
   ·exact .inl (List.mem_cons_of_mem _ h)
   ·cases o with
    | none=>cases h;exact .inl (List.mem_cons_self ..)
    | some u =>
     rw [offO] at h
     split at h
     ·cases h;exact .inl (List.mem_cons_self ..)
     ·exact .inr h
 rcases key l none h with h | h
 ·exact h
 ·cases h
theorem cutL_len (f : Nat → Int) (n : Nat) : (cutL f n).length = n:=by simp [cutL]
theorem mat_mem {x : Vm} (hv : VOk x) {s : Nat → Int} {ls : List Int} {t : List Int} (h : t ∈ matL x s ls) : t.length = x.D.length ∧ TubS (val t):=by
 have hm:=(List.mem_filter.1 h).1
 have h2:=(recL_all x.D.length (by have:=hv.d4;omega)).2 t hm
 exact ⟨h2.1,h2.2.1⟩
theorem mat_len {x : Vm} (hv : VOk x) {s : Nat → Int} {ls : List Int} : (matL x s ls).length ≤ 500:=Nat.le_trans (List.length_filter_le _ _) (recL_len x.D.length (by have:=hv.d4;omega))
theorem getD_memL {α : Type} (d : α) {l : List α} {i : Nat} (h : i < l.length) : l.getD i d ∈ l:=by rw [List.getD_eq_getElem?_getD,List.getElem?_eq_getElem h];exact List.getElem_mem h
theorem slAt_of_tubs {w : World} {base n c : Nat} {a : Option Addr} {T : List (List Int)} (h : w.ownsRow base 75 4 (.slice a n c) n (tubsV T)) (hn : n = T.length) (X : List Nat) (hX : ∀ b ∈ X,b < base) : SlAt X w a 4 T.length (fun i=>tubR (val (T.getD i []))):=slAt_of_owns (row:=fun t : List Int=>tubR (val t)) h hn (fun _=>rfl) X hX []
set_option maxRecDepth 100000 in
set_option maxHeartbeats 1000000 in
theorem xFewest_ok (x : Vm) (hv : VOk x) (s : List Int) (hs : SmpOk x s) (ls : List Int) (hl : LmpsOk x ls) (hll : ls.length ≤ 1000) (a b : Option Addr) (c d : Nat) (w : World) (h : x.At w) (hr : IsRows w (.slice a s.length c) 1 (s.map intRow)) (hq : IsRows w (.slice b ls.length d) 1 (ls.map intRow)) :
  Calls Tryz.prog 14 #[.agg #[.int .i64 x.B,.slice x.da x.D.length x.dc,.slice x.la x.L.length x.lc,.int .i64 x.tol],.slice a s.length c,.slice b ls.length d] w (IntsPost (fewR x (val s) ls) w):=by
 have E : Ext [] w w:=Ext.refl _ _
 have HX:=Lib.hid h
 have HV:=Lib.hid hv
 have HR:=Lib.hid hr
 have HQ:=Lib.hid hq
 have HL:=Lib.hid hl
 have HS:=Lib.hid hs
 have hd4:=hv.d4
 obtain ⟨T,hT⟩ : ∃ T,T = matL x (val s) ls:=⟨_,rfl⟩
 have HM : RowKit.Hid (∀ t ∈ T,t.length = x.D.length ∧ TubS (val t)):=Lib.hid (fun t ht=>mat_mem hv (by rw [← hT];exact ht))
 have htl : T.length ≤ 500:=by rw [hT];exact mat_len hv
 clear h hv hr hq hl hs
 refine calls_hasM 55 Tryz.func14 rfl Tryz.ntmps14 (Nat.le_of_ble_eq_true rfl) ?_
 intro fa F
 refine wp_seq_k fun K1 hK1=>?_
 refine wp_region_lit ?_
 refine sq_new F rfl (by decide) rfl (R_box rfl (F.at rfl)) ?_;clear F fa;intro fa w1 F hw
 obtain ⟨n3,hn⟩ : ∃ n,n = w.heap.size:=⟨_,rfl⟩
 rw [← hn] at F
 have s3 : w.heap.size ≤ n3:=Nat.le_of_eq hn.symm
 have l3_E : w.heap.size ≤ n3:=by rw [hn];exact E.size
 replace E:=ext_alloc E hw
 have q3:=new_row hw hn
 clear hw hn
 refine F.vl (R_assign rfl (ev_c fa _)) ?_;clear F fa;intro fa F
 refine sq_new F rfl (by decide) rfl (R_alloc rfl Tryz.zeroValue35) ?_;clear F fa;intro fa w2 F hw
 obtain ⟨n7,hn⟩ : ∃ n,n = w1.heap.size:=⟨_,rfl⟩
 rw [← hn] at F
 have s7 : w1.heap.size ≤ n7:=Nat.le_of_eq hn.symm
 have l7_E : w.heap.size ≤ n7:=by rw [hn];exact E.size
 have m7_3 : n3 < n7:=by rw [hn];exact blk_lt q3
 replace q3:=keep_alloc hw q3
 replace E:=ext_alloc E hw
 have q7:=new_one hw rfl hn
 clear hw hn
 refine wpList_nil ?_
 refine hK1 _ _ ?_
 clear hK1
 refine wp_seq_k fun K2 hK2=>?_
 refine wp_region_lit ?_
 refine sq_defer F rfl rfl (R_defer rfl rfl (mpS (F.at rfl) mp0)) ?_;clear F fa;intro fa F
 refine wpList_nil ?_
 refine hK2 _ _ ?_
 clear hK2
 refine wp_seq_k fun K3 hK3=>?_
 refine wp_region_lit ?_
 refine F.vl (R_loadBlk rfl (F.at rfl) Tryz.underlying24 rfl (by kernel_rfl) q3) ?_;clear F fa;intro fa F
 refine sq_call F rfl (by decide) rfl (R_callV rfl rfl Tryz.call40 (mpS (F.at rfl) mp0)) (begin_ok x HV.out _ (HX.out.ext E)) fun e w3 hR=>?_
 obtain ⟨rfl,e9⟩:=hR
 refine ⟨_,rfl,?_⟩;clear F fa;intro fa F
 replace q3:=(e9).keep0 q3
 replace q7:=(e9).keep0 q7
 replace E:=ext_same E (e9)
 clear e9
 refine sq_new F rfl (by decide) rfl (R_alloc rfl Tryz.zeroValue69) ?_;clear F fa;intro fa w4 F hw
 obtain ⟨n8,hn⟩ : ∃ n,n = w3.heap.size:=⟨_,rfl⟩
 rw [← hn] at F
 have s8 : w3.heap.size ≤ n8:=Nat.le_of_eq hn.symm
 have l8_E : w.heap.size ≤ n8:=by rw [hn];exact E.size
 have m8_3 : n3 < n8:=by rw [hn];exact blk_lt q3
 have m8_7 : n7 < n8:=by rw [hn];exact blk_lt q7
 replace q3:=keep_alloc hw q3
 replace q7:=keep_alloc hw q7
 replace E:=ext_alloc E hw
 have q8:=new_row hw hn
 clear hw hn
 refine sq_to rfl rfl (R_storeRow rfl (F.at rfl) (F.at rfl) (by kernel_rfl) (by first | (simp [Value.oneCell'];done) | (simp [Value.oneCell',tubR];done)) q8 rfl) ?_;intro w5 hw
 replace q3:=keep_cells hw q3 (by omega)
 replace q7:=keep_cells hw q7 (by omega)
 replace q8:=put_row hw q8 rfl
 replace E:=ext_cells E hw (fun h=>by first | exact absurd h (by omega) | simp)
 clear hw
 refine wpList_nil ?_
 refine hK3 _ _ ?_
 clear hK3
 refine wp_seq_k fun K4 hK4=>?_
 refine wp_region_lit ?_
 refine F.vl (R_loadBlk rfl (F.at rfl) Tryz.underlying69 rfl (by kernel_rfl) q8) ?_;clear F fa;intro fa F
 refine F.mv ?_;clear F fa;intro fa F
 refine sq_call F rfl (by decide) rfl (R_callV rfl rfl Tryz.call41 (mpS (F.at rfl) (mpS (F.at rfl) mp0))) (sample_ok x HV.out s HS.out a c _ (HR.out.ext E (by simp))) fun e w6 hR=>?_
 obtain ⟨rfl,e9⟩:=hR
 refine ⟨_,rfl,?_⟩;clear F fa;intro fa F
 replace q3:=(e9).keep0 q3
 replace q7:=(e9).keep0 q7
 replace q8:=(e9).keep0 q8
 replace E:=ext_same E (e9)
 clear e9
 refine wpList_nil ?_
 refine hK4 _ _ ?_
 clear hK4
 refine wp_seq_k fun K5 hK5=>?_
 refine wp_region_lit ?_
 refine F.vl (R_loadBlk rfl (F.at rfl) Tryz.underlying69 rfl (by kernel_rfl) q8) ?_;clear F fa;intro fa F
 refine F.mv ?_;clear F fa;intro fa F
 refine sq_call F rfl (by decide) rfl (R_callV rfl rfl Tryz.call42 (mpS (F.at rfl) (mpS (F.at rfl) mp0))) (lamps_ok x HV.out ls HL.out hll b d _ (HX.out.ext E) (HQ.out.ext E (by simp))) fun e w7 hR=>?_
 obtain ⟨rfl,e9⟩:=hR
 refine ⟨_,rfl,?_⟩;clear F fa;intro fa F
 replace q3:=(e9).keep0 q3
 replace q7:=(e9).keep0 q7
 replace q8:=(e9).keep0 q8
 replace E:=ext_same E (e9)
 clear e9
 refine wpList_nil ?_
 refine hK5 _ _ ?_
 clear hK5
 refine wp_seq_k fun K6 hK6=>?_
 refine wp_region_lit ?_
 refine sq_new F rfl (by decide) rfl (R_alloc rfl Tryz.zeroValue81) ?_;clear F fa;intro fa w8 F hw
 obtain ⟨n9,hn⟩ : ∃ n,n = w7.heap.size:=⟨_,rfl⟩
 rw [← hn] at F
 have s9 : w7.heap.size ≤ n9:=Nat.le_of_eq hn.symm
 have l9_E : w.heap.size ≤ n9:=by rw [hn];exact E.size
 have m9_3 : n3 < n9:=by rw [hn];exact blk_lt q3
 have m9_7 : n7 < n9:=by rw [hn];exact blk_lt q7
 have m9_8 : n8 < n9:=by rw [hn];exact blk_lt q8
 replace q3:=keep_alloc hw q3
 replace q7:=keep_alloc hw q7
 replace q8:=keep_alloc hw q8
 replace E:=ext_alloc E hw
 have q9:=new_row hw hn
 clear hw hn
 refine wpList_nil ?_
 replace q9 : w8.heap[n9]? = some (.cells (nearO val cF (pickO cF (T.take 0))) 81 (0,0)):=q9
 refine hK6 _ _ ?_
 clear hK6
 refine wp_seq_k fun K7 hK7=>?_
 refine wp_seq_k fun K8 hK8=>?_
 refine wp_region_lit ?_
 refine F.vl (R_loadBlk rfl (F.at rfl) Tryz.underlying69 rfl (by kernel_rfl) q8) ?_;clear F fa;intro fa F
 refine F.mv ?_;clear F fa;intro fa F
 refine F.mv ?_;clear F fa;intro fa F
 have b9:=blk_lt q9
 refine sq_call F rfl (by decide) rfl (R_callV rfl rfl Tryz.call43 (mpS (F.at rfl) (mpS (F.at rfl) (mpS (F.at rfl) mp0)))) (matching_ok x HV.out s HS.out ls HL.out.2.1 hll a b c d _ (HX.out.ext E) (HR.out.ext E (by simp)) (HQ.out.ext E (by simp))) fun e w9 hR=>?_
 obtain ⟨ma,mc,rfl,om,e9⟩:=hR
 refine ⟨_,rfl,?_⟩;clear F fa;intro fa F
 replace q3:=(e9).keep0 q3
 replace q7:=(e9).keep0 q7
 replace q8:=(e9).keep0 q8
 replace q9:=(e9).keep0 q9
 replace E:=ext_same E (e9)
 clear e9
 rw [← hT] at F om
 have HT:=Lib.hid (slAt_of_tubs om rfl [n9] (by simpa using b9))
 clear om
 have E9 : Ext [n9] w9 w9:=Ext.refl _ _
 refine F.vl (R_len rfl rfl (F.at rfl) Tryz.underlying72) ?_;clear F fa;intro fa F
 refine F.vl (R_move rfl (ev_c fa _)) ?_;clear F fa;intro fa F
 refine wpList_nil ?_
 refine hK8 _ _ ?_
 clear hK8
 refine wp_block ?_
 have F0:=F.sub (.c 7 rfl (.c 8 rfl (.c 9 rfl (.c 26 rfl (.c 27 rfl .n)))))
 refine lp_for F0 (T.length) (fun i Lv W=>Lv = [(28,.int .i64 ((i : Nat) : Int))] ∧ Ext [] w W ∧ Ext [n9] w9 W ∧ W.heap[n3]? = some (.cells #[.int .i64 x.B,.slice x.da x.D.length x.dc,.slice x.la x.L.length x.lc,.int .i64 x.tol] 24 (0,0)) ∧ W.heap[n7]? = some (.cells #[.int .i64 0] 35 (0,0)) ∧ W.heap[n8]? = some (.cells #[.int .i64 x.B,.slice x.da x.D.length x.dc,.slice x.la x.L.length x.lc,.int .i64 x.tol] 69 (0,0)) ∧ W.heap[n9]? = some (.cells (nearO val cF (pickO cF (T.take i))) 81 (0,0))) ⟨_,⟨rfl,E,E9,q3,q7,q8,q9⟩,F.sub (.c 28 rfl (.c 7 rfl (.c 8 rfl (.c 9 rfl (.c 26 rfl (.c 27 rfl .n))))))⟩ ?_
 clear F F0
 clear E E9 q3 q7 q8 q9
 rintro i _ fa w10 hi1 ⟨rfl,E,E9,q3,q7,q8,q9⟩ F
 refine wp_seq_k fun K9 hK9=>?_
 refine wp_region_lit ?_
 refine F.vl (R_lss rfl (F.at rfl) (F.at rfl)) ?_;clear F fa;intro fa F
 refine wpList_nil ?_
 refine hK9 _ _ ?_
 clear hK9
 refine wp_seq_k fun K10 hK10=>?_
 refine cd_if F rfl (fun hc29=>?_) (fun hc29=>?_)
 ·skip
  refine wp_skip ?_
  refine hK10 _ _ ?_
  clear hK10
  refine wp_seq_k fun K11 hK11=>?_
  refine wp_block ?_
  refine wp_seq_k fun K12 hK12=>?_
  refine wp_region_lit ?_
  obtain ⟨xb13,xo13,xa13,xr13⟩:=HT.out i (by omega)
  refine F.vl (R_ixSlice (sz:=4) rfl ((F.at rfl).trans (xa13 _ _)) (F.at rfl) Tryz.underlying72 (by kernel_rfl) (by omega) (by omega)) ?_;clear F fa;intro fa F
  refine F.vl (R_loadRow rfl (F.at rfl) Tryz.underlying75 rfl (by kernel_rfl) (xr13 _ E9)) ?_;clear F fa;intro fa F
  refine sq_new F rfl (by decide) rfl (R_alloc rfl Tryz.zeroValue75) ?_;clear F fa;intro fa w11 F hw
  obtain ⟨n11,hn⟩ : ∃ n,n = w10.heap.size:=⟨_,rfl⟩
  rw [← hn] at F
  have s11 : w10.heap.size ≤ n11:=Nat.le_of_eq hn.symm
  have l11_E : w.heap.size ≤ n11:=by rw [hn];exact E.size
  have l11_E9 : w9.heap.size ≤ n11:=by rw [hn];exact E9.size
  have m11_3 : n3 < n11:=by rw [hn];exact blk_lt q3
  have m11_7 : n7 < n11:=by rw [hn];exact blk_lt q7
  have m11_8 : n8 < n11:=by rw [hn];exact blk_lt q8
  have m11_9 : n9 < n11:=by rw [hn];exact blk_lt q9
  replace q3:=keep_alloc hw q3
  replace q7:=keep_alloc hw q7
  replace q8:=keep_alloc hw q8
  replace q9:=keep_alloc hw q9
  replace E:=ext_alloc E hw
  replace E9:=ext_alloc E9 hw
  have q11:=new_row hw hn
  clear hw hn
  refine sq_to rfl rfl (R_storeRow rfl (F.at rfl) (F.at rfl) (by kernel_rfl) (by first | (simp [Value.oneCell'];done) | (simp [Value.oneCell',tubR];done)) q11 rfl) ?_;intro w12 hw
  replace q3:=keep_cells hw q3 (by omega)
  replace q7:=keep_cells hw q7 (by omega)
  replace q8:=keep_cells hw q8 (by omega)
  replace q9:=keep_cells hw q9 (by omega)
  replace q11:=put_row hw q11 rfl
  replace E:=ext_cells E hw (fun h=>by first | exact absurd h (by omega) | simp)
  replace E9:=ext_cells E9 hw (fun h=>by first | exact absurd h (by omega) | simp)
  clear hw
  refine wpList_nil ?_
  have hts:=(HM.out (T.getD i []) (getD_memL [] (by omega))).2
  replace q11 : w12.heap[n11]? = some (.cells (tubC (val (T.getD i []))) 75 (0,0)):=q11
  refine hK12 _ _ ?_
  clear hK12
  refine wp_seq_k fun K14 hK14=>?_
  refine wp_region_lit ?_
  refine F.vl (R_assign rfl (ev_c fa _)) ?_;clear F fa;intro fa F
  rw [show (0 : Int) = dyeN (val (T.getD i [])) 0 from rfl] at F
  refine wpList_nil ?_
  refine hK14 _ _ ?_
  clear hK14
  refine wp_seq_k fun K15 hK15=>?_
  refine wp_seq_k fun K16 hK16=>?_
  refine wp_region_lit ?_
  refine F.vl (R_loadBlk rfl (F.at rfl) Tryz.underlying75 rfl (by kernel_rfl) q11) ?_;clear F fa;intro fa F
  refine F.vl (R_move rfl (ev_c fa _)) ?_;clear F fa;intro fa F
  refine wpList_nil ?_
  refine hK16 _ _ ?_
  clear hK16
  refine wp_block ?_
  have F0:=F.sub (.c 7 rfl (.c 8 rfl (.c 9 rfl (.c 11 rfl (.c 26 rfl (.c 27 rfl (.c 28 rfl (.c 32 rfl .n))))))))
  refine lp_for F0 (4) (fun k Lv W=>Lv = [(12,.int .i64 (dyeN (val (T.getD i [])) k)),(33,.int .i64 ((k : Nat) : Int))] ∧ Ext [] w W ∧ Ext [n9] w9 W ∧ W.heap[n3]? = some (.cells #[.int .i64 x.B,.slice x.da x.D.length x.dc,.slice x.la x.L.length x.lc,.int .i64 x.tol] 24 (0,0)) ∧ W.heap[n7]? = some (.cells #[.int .i64 0] 35 (0,0)) ∧ W.heap[n8]? = some (.cells #[.int .i64 x.B,.slice x.da x.D.length x.dc,.slice x.la x.L.length x.lc,.int .i64 x.tol] 69 (0,0)) ∧ W.heap[n9]? = some (.cells (nearO val cF (pickO cF (T.take i))) 81 (0,0)) ∧ W.heap[n11]? = some (.cells (tubC (val (T.getD i []))) 75 (0,0)) ∧ 0 ≤ dyeN (val (T.getD i [])) k ∧ dyeN (val (T.getD i [])) k ≤ k) ⟨_,⟨rfl,E,E9,q3,q7,q8,q9,q11,(by simp [dyeN,sumTo])⟩,F.sub (.c 12 rfl (.c 33 rfl (.c 7 rfl (.c 8 rfl (.c 9 rfl (.c 11 rfl (.c 26 rfl (.c 27 rfl (.c 28 rfl (.c 32 rfl .n))))))))))⟩ ?_
  clear F F0
  clear E E9 q3 q7 q8 q9 q11
  rintro k _ fa w13 hi2 ⟨rfl,E,E9,q3,q7,q8,q9,q11,hdn⟩ F
  refine wp_seq_k fun K17 hK17=>?_
  refine wp_region_lit ?_
  refine F.vl (R_lss rfl (F.at rfl) (ev_c fa _)) ?_;clear F fa;intro fa F
  refine wpList_nil ?_
  refine hK17 _ _ ?_
  clear hK17
  refine wp_seq_k fun K18 hK18=>?_
  refine cd_if F rfl (fun hc34=>?_) (fun hc34=>?_)
  ·skip
   refine wp_skip ?_
   refine hK18 _ _ ?_
   clear hK18
   refine wp_seq_k fun K19 hK19=>?_
   refine wp_block ?_
   refine wp_seq_k fun K20 hK20=>?_
   refine wp_region_lit ?_
   refine F.vl (R_index rfl (F.at rfl) (F.at rfl) Tryz.underlying75 (by kernel_rfl) Tryz.underlying3 rfl (by omega) (by omega) (tub_ix (k:=k) rfl (by omega))) ?_;clear F fa;intro fa F
   refine F.as ?_;clear F fa;intro fa F
   refine wpList_nil ?_
   refine hK20 _ _ ?_
   clear hK20
   have hbk:=hts k (by omega)
   refine wp_region_lit ?_
   refine F.mv ?_;clear F fa;intro fa F
   refine F.mv ?_;clear F fa;intro fa F
   refine F.vl (R_min rfl rfl (F.at rfl) (ev_c fa _)) ?_;clear F fa;intro fa F
   refine F.vl (R_add rfl (F.at rfl) (F.at rfl) (by omega) (by omega)) ?_;clear F fa;intro fa F
   refine F.as ?_;clear F fa;intro fa F
   rw [show dyeN (val (T.getD i [])) k + min (val (T.getD i []) k) 1 = dyeN (val (T.getD i [])) (k + 1) from rfl] at F
   refine wpList_nil ?_
   refine hK19 _ _ ?_
   clear hK19
   refine wp_region_lit ?_
   refine F.vl (R_add rfl (F.at rfl) (ev_c fa _) (by omega) (by omega)) ?_;clear F fa;intro fa F
   refine F.mv ?_;clear F fa;intro fa F
   refine wpList_nil ?_
   show _ ∧ _
   exact ⟨by omega,_,⟨rfl,E,E9,q3,q7,q8,q9,q11,(by have:=hts k (by omega);have h2 : dyeN (val (T.getD i [])) (k + 1) = dyeN (val (T.getD i [])) k + min (val (T.getD i []) k) 1:=rfl;constructor <;> omega)⟩,F.sub (.c 12 rfl (.c 33 rfl (.c 7 rfl (.c 8 rfl (.c 9 rfl (.c 11 rfl (.c 26 rfl (.c 27 rfl (.c 28 rfl (.c 32 rfl .n))))))))))⟩
  ·skip
   refine wp_exit ?_
   rw [show k = 4 by omega] at F
   refine hK15 _ _ ?_
   clear hK15
   refine region_xN (Ext [n9] w13) none follows fun w14 hh eh=>?_
   have q3_:=q3
   replace q3:=keep_same hh q3
   have q7_:=q7
   replace q7:=keep_same hh q7
   have q8_:=q8
   replace q8:=keep_same hh q8
   have q9_:=q9
   replace q9:=keep_same hh q9
   have q11_:=q11
   replace q11:=keep_same hh q11
   have E_:=E
   have zEw14:=E.size
   replace E:=ext_same E eh
   have E9_:=E9
   have zE9w14:=E9.size
   replace E9:=ext_same E9 eh
   have eT:=eh.mono (Y:=[n9]) (by simp)
   clear hh eh
   refine F.xr (i:=0) rfl (fun w' hS=>R_loadBlk rfl (F.at rfl) Tryz.underlying75 rfl (by kernel_rfl) (hS.keep q11_ (by simp;omega))) (fun _=>eT) ?_;clear F fa;intro fa F
   refine F.x (i:=1) rfl (fun w'=>R_move rfl (F.at rfl)) (fun _=>eT) ?_;clear F fa;intro fa F
   refine F.xr (i:=2) rfl (fun w' hS=>R_loadBlk rfl (F.at rfl) Tryz.underlying75 rfl (by kernel_rfl) (hS.keep q11_ (by simp;omega))) (fun _=>eT) ?_;clear F fa;intro fa F
   refine ax_only (i:=3) (by kernel_rfl) (op_call F rfl rfl (by decide) rfl (R_callV rfl rfl Tryz.call48 (mpS (F.at rfl) mp0)) (parts_any (val (T.getD i [])) hts.ok _) fun e w15 hR=>?_)
   obtain ⟨rfl,e9⟩:=hR
   refine ⟨_,rfl,?_⟩;clear F fa;intro fa F
   replace q3:=(e9).keep0 q3
   replace q7:=(e9).keep0 q7
   replace q8:=(e9).keep0 q8
   replace q9:=(e9).keep0 q9
   replace q11:=(e9).keep0 q11
   replace E:=ext_same E (e9)
   replace E9:=ext_same E9 (e9)
   replace eT:=ext_same eT (e9)
   clear e9
   refine ⟨fun _=>eT,?_⟩
   refine F.x (i:=4) rfl (fun w'=>R_buildV rfl (prS (F.at rfl) (prS (F.at rfl) pr0)) (cells:=#[.int .i64 (dyeN (val (T.getD i [])) 4),.int .i64 (prt (val (T.getD i [])))]) (by kernel_rfl)) (fun _=>eT) ?_;clear F fa;intro fa F
   refine ax_only (i:=5) (by kernel_rfl) (op_call F rfl rfl (by decide) rfl (R_callV rfl rfl Tryz.call47 (mpS (F.at rfl) (mpS (F.at rfl) (mpS (F.at rfl) mp0)))) (offer_any val cF n9 (pickO cF (T.take i)) (T.getD i []) _ q9) fun e w16 hR=>?_)
   obtain ⟨rfl,q9',e9⟩:=hR
   refine ⟨_,rfl,?_⟩;clear F fa;intro fa F
   replace q3:=(e9).keep q3 (by simp;omega)
   replace q7:=(e9).keep q7 (by simp;omega)
   replace q8:=(e9).keep q8 (by simp;omega)
   replace q11:=(e9).keep q11 (by simp;omega)
   replace E:=E.trans' e9 (fun i hi hl=>by simp only [List.mem_cons,List.not_mem_nil,or_false] at hi ⊢;omega)
   replace E9:=E9.trans' e9 (fun i hi hl=>by simp only [List.mem_cons,List.not_mem_nil,or_false] at hi ⊢;omega)
   replace eT:=eT.trans' e9 (fun i hi hl=>by simp only [List.mem_cons,List.not_mem_nil,or_false] at hi ⊢;omega)
   refine ⟨fun _=>eT,?_⟩
   rw [← pick_snoc,← take_getD T [] (by omega)] at q9'
   replace q9:=q9'
   clear q9'
   refine ax_doneN (by kernel_rfl) ?_ _
   clear eT q3_ q7_ q8_ q9_ q11_ E_ E9_
   refine hK11 _ _ ?_
   clear hK11
   refine wp_region_lit ?_
   refine F.vl (R_add rfl (F.at rfl) (ev_c fa _) (by omega) (by omega)) ?_;clear F fa;intro fa F
   refine F.mv ?_;clear F fa;intro fa F
   refine wpList_nil ?_
   show _ ∧ _
   exact ⟨by omega,_,⟨rfl,E,E9,q3,q7,q8,q9⟩,F.sub (.c 28 rfl (.c 7 rfl (.c 8 rfl (.c 9 rfl (.c 26 rfl (.c 27 rfl .n))))))⟩
 ·skip
  refine wp_exit ?_
  rw [List.take_of_length_le (show T.length ≤ i by omega)] at q9
  refine hK7 _ _ ?_
  clear hK7
  refine wp_seq_k fun K21 hK21=>?_
  refine wp_seq_k fun K22 hK22=>?_
  by_cases hN : pickO cF T = none
  ·skip
   replace q9 : w10.heap[n9]? = some (.cells #[.int .i64 (zf 0),.int .i64 (zf 1),.int .i64 (zf 2),.int .i64 (zf 3),.int .i64 0,.int .i64 0,.bool false] 81 (0,0)):=by rw [hN] at q9;exact q9
   refine wp_region_lit ?_
   refine F.vl (R_field rfl (F.at rfl) Tryz.underlying81 rfl (n:=6) (sz:=1) rfl (by kernel_rfl) (by decide)) ?_;clear F fa;intro fa F
   refine F.vl (R_load rfl (F.at rfl) Tryz.underlying4 rfl ((cells_of_block q9 6).trans (getS (getS (getS (getS (getS (getS (get0))))))))) ?_;clear F fa;intro fa F
   refine F.vl (R_not rfl (F.at rfl)) ?_;clear F fa;intro fa F
   refine wpList_nil ?_
   refine hK22 _ _ ?_
   clear hK22
   refine cd_T F rfl ?_
   refine wp_seq_k fun K23 hK23=>?_
   refine wp_region_lit ?_
   refine F.vl (R_assign rfl (ev_c fa _)) ?_;clear F fa;intro fa F
   refine sq_to rfl rfl (R_store rfl (F.at rfl) (ev_c fa _) rfl (by kernel_rfl) ((cells_of_block q7 0).trans (get0)) (free_of_block q7 0)) ?_;intro w17 hw
   replace q3:=keep_cell hw q3 (by omega)
   replace q7:=put_cell hw q7 (by simp only [List.setIfInBounds_toArray,lsQ,lzQ];exact rfl)
   replace q8:=keep_cell hw q8 (by omega)
   replace q9:=keep_cell hw q9 (by omega)
   replace E:=ext_cell E hw (fun h=>by first | exact absurd h (by omega) | simp)
   clear hw
   refine wpList_nil ?_
   refine hK23 _ _ ?_
   clear hK23
   refine wp_ret ?_
   (try simp only [Exit.inBlock,Exit.then,reduceIte])
   refine rtM_v F ?_
   refine lv_caught ?_
   refine lv_nil (rs_tc F rfl rfl rfl Tryz.underlying35 rfl q7) ?_
   rw [fewR,← hT,hN]
   exact ⟨none,0,rfl,World.ownsRow_nil _ _ _ _,E⟩
  ·skip
   obtain ⟨t,ht⟩:=Option.ne_none_iff_exists'.1 hN
   have htm:=HM.out t (pick_mem ht)
   replace q9 : w10.heap[n9]? = some (.cells #[.int .i64 (val t 0),.int .i64 (val t 1),.int .i64 (val t 2),.int .i64 (val t 3),.int .i64 (cF t).1,.int .i64 (cF t).2,.bool true] 81 (0,0)):=by rw [ht] at q9;exact q9
   refine wp_region_lit ?_
   refine F.vl (R_field rfl (F.at rfl) Tryz.underlying81 rfl (n:=6) (sz:=1) rfl (by kernel_rfl) (by decide)) ?_;clear F fa;intro fa F
   refine F.vl (R_load rfl (F.at rfl) Tryz.underlying4 rfl ((cells_of_block q9 6).trans (getS (getS (getS (getS (getS (getS (get0))))))))) ?_;clear F fa;intro fa F
   refine F.vl (R_not rfl (F.at rfl)) ?_;clear F fa;intro fa F
   refine wpList_nil ?_
   refine hK22 _ _ ?_
   clear hK22
   refine cd_F F rfl ?_
   refine wp_skip ?_
   refine hK21 _ _ ?_
   clear hK21
   refine wp_seq_k fun K24 hK24=>?_
   refine wp_region_lit ?_
   refine F.vl (R_loadBlk rfl (F.at rfl) Tryz.underlying69 rfl (by kernel_rfl) q8) ?_;clear F fa;intro fa F
   refine F.vl (R_field rfl (F.at rfl) Tryz.underlying81 rfl (n:=0) (sz:=4) rfl (by kernel_rfl) (by decide)) ?_;clear F fa;intro fa F
   refine F.vl (R_loadRow rfl (F.at rfl) Tryz.underlying75 rfl (by kernel_rfl) (range_mid' (n:=4) q9 rfl (midS (get0) (midS (getS (get0)) (midS (getS (getS (get0))) (midS (getS (getS (getS (get0)))) mid0)))))) ?_;clear F fa;intro fa F
   have hEs:=E.size
   refine sq_call F rfl (by decide) rfl (R_callV rfl rfl Tryz.call44 (mpS (F.at rfl) (mpS (F.at rfl) mp0))) (cut_ok x HV.out (val t) _) fun e w18 hR=>?_
   obtain ⟨ca,cc,rfl,oo,e9⟩:=hR
   refine ⟨_,rfl,?_⟩;clear F fa;intro fa F
   replace q3:=(e9).keep0 q3
   replace q7:=(e9).keep0 q7
   replace q8:=(e9).keep0 q8
   replace q9:=(e9).keep0 q9
   replace E:=ext_same E (e9)
   clear e9
   replace oo:=owns_lower oo hEs
   refine F.as ?_;clear F fa;intro fa F
   refine sq_to rfl rfl (R_store rfl (F.at rfl) (ev_c fa _) rfl (by kernel_rfl) ((cells_of_block q7 0).trans (get0)) (free_of_block q7 0)) ?_;intro w19 hw
   replace oo:=owns_cellX hw oo (own_ne_type oo q7 (by decide))
   replace q3:=keep_cell hw q3 (by omega)
   replace q7:=put_cell hw q7 (by simp only [List.setIfInBounds_toArray,lsQ,lzQ];exact rfl)
   replace q8:=keep_cell hw q8 (by omega)
   replace q9:=keep_cell hw q9 (by omega)
   replace E:=ext_cell E hw (fun h=>by first | exact absurd h (by omega) | simp)
   clear hw
   refine wpList_nil ?_
   refine hK24 _ _ ?_
   clear hK24
   refine wp_ret ?_
   (try simp only [Exit.inBlock,Exit.then,reduceIte])
   refine rtM_v F ?_
   refine lv_caught ?_
   refine lv_nil (rs_tc F rfl rfl rfl Tryz.underlying35 rfl q7) ?_
   rw [fewR,← hT,ht]
   refine ⟨ca,cc,?_,?_,E⟩
   ·simp only [cutL_len]
   ·simp only [cutL_len];exact oo
end Go.Proofs.YtdjeecgddbjbeaaGreat
