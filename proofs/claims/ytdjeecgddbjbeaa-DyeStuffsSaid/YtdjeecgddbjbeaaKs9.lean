/- Parts of a proof: Dco, Dis, Dsh, Dsd. No conditions. -/
import Derived.Test.YtdjeecgddbjbeaaKs8
set_option linter.unusedVariables false
set_option linter.unusedSimpArgs false
namespace Go.Proofs.Ytdjeecgddbjbeaa
open Go.RowKit Go.Maps
def mrG (t q : List Int) : Nat → Int:=fun k=>val q k - val t k
def mrF (t q : List Int) (i : Nat) : Nat → Int:=fun k=>if k < i then mrG t q k else 0
def mrC (t q : List Int) : Int × Int:=(prt (mrG t q),0)
def corB (x : Vm) (t : List Int) (s : Nat → Int) (ls : List Int) (q : List Int) : Bool:=((List.range 4).all fun k=>decide (0 ≤ mrG t q k)) && matE x (val q) s ls
def corO (x : Vm) (t : List Int) (s : Nat → Int) (ls : List Int) (pre : List (List Int)) : Option (List Int):=pickO (mrC t) (pre.filter (corB x t s ls))
def corR (x : Vm) (t : List Int) (s : Nat → Int) (ls : List Int) : List Int × Int:=match corO x t s ls (recL x.D.length) with
 | none=>([],11)
 | some q=>(cutL (mrG t q) x.D.length,0)
theorem cor_neg {x : Vm} {t q ls : List Int} {s : Nat → Int} {k : Nat} (hk : k < 4) (h : mrG t q k < 0) : corB x t s ls q = false:=by
 rw [corB,show ((List.range 4).all fun k=>decide (0 ≤ mrG t q k)) = false from List.all_eq_false.2 ⟨k,by simpa using hk,by simp;omega⟩,Bool.false_and]
theorem cor_ok {x : Vm} {t q ls : List Int} {s : Nat → Int} (h : ∀ k,k < 4 → 0 ≤ mrG t q k) : corB x t s ls q = matE x (val q) s ls:=by
 rw [corB,show ((List.range 4).all fun k=>decide (0 ≤ mrG t q k)) = true from List.all_eq_true.2 fun k hk=>decide_eq_true (h k (by simpa using hk)),Bool.true_and]
theorem corO_skip {x : Vm} {t q ls : List Int} {s : Nat → Int} {pre : List (List Int)} (h : corB x t s ls q = false) : corO x t s ls (pre ++ [q]) = corO x t s ls pre:=by
 rw [corO,corO,filter_snoc,h];rfl
theorem corO_take {x : Vm} {t q ls : List Int} {s : Nat → Int} {pre : List (List Int)} (h : corB x t s ls q = true) : corO x t s ls (pre ++ [q]) = offO (mrC t) (corO x t s ls pre) q:=by
 rw [corO,corO,filter_snoc,h,if_pos rfl,pick_snoc]
theorem mrF_zero (t q : List Int) : mrF t q 0 = zf:=by funext k;simp [mrF,zf]
theorem mrF_up (t q : List Int) (i : Nat) : upF (mrF t q i) i (mrG t q i) = mrF t q (i + 1):=by
 funext k
 rw [upF,mrF,mrF]
 by_cases h : k = i
 ·subst h;simp
 ·by_cases h2 : k < i
  ·simp [h,h2,show k < i + 1 by omega]
  ·simp [h,h2,show ¬ k < i + 1 by omega]
theorem mrF_end (t q : List Int) : tubC (mrF t q 4) = tubC (mrG t q):=tub_congr fun k hk=>if_pos hk
theorem rowOf_near {α : Type} {g : α → Nat → Int} {c : α → Int × Int} {o : Option α} {ob : Nat} {W : World} {T : TypeId} {fz : Nat × Nat} (h : W.heap[ob]? = some (.cells (nearO g c o) T fz)) : rowOf ob W = none:=by
 rw [rowOf,h]
 cases o <;> rfl
structure CorI (x : Vm) (t : List Int) (sv lv : Value) (w : World) (B n6 n7 n9 n10 n11 n12 : Nat) (o : Option (List Int)) (W : World) : Prop where
 q6 : W.heap[n6]? = some (.cells #[sv] 25 (0,0))
 q7 : W.heap[n7]? = some (.cells #[lv] 25 (0,0))
 q9 : W.heap[n9]? = some (.cells #[.int .i64 0] 35 (0,0))
 q10 : W.heap[n10]? = some (.cells #[.int .i64 x.B,.slice x.da x.D.length x.dc,.slice x.la x.L.length x.lc,.int .i64 x.tol] 80 (0,0))
 q11 : W.heap[n11]? = some (.cells (tubC (val t)) 83 (0,0))
 q12 : W.heap[n12]? = some (.cells (nearO (mrG t) (mrC t) o) 88 (0,0))
 E : Ext [] w W
 sz : B ≤ W.heap.size
theorem CorI.kept {x : Vm} {t : List Int} {sv lv : Value} {w : World} {B n6 n7 n9 n10 n11 n12 : Nat} {o : Option (List Int)} {W V : World} {row : Option Nat} (h : CorI x t sv lv w B n6 n7 n9 n10 n11 n12 o W) (hg : W.grownBy V row) (h1 : ∀ r,row = some r → B ≤ r) (hB : n6 < B ∧ n7 < B ∧ n9 < B ∧ n10 < B ∧ n11 < B ∧ n12 < B ∧ w.heap.size ≤ B) : CorI x t sv lv w B n6 n7 n9 n10 n11 n12 o V:=by
 obtain ⟨b6,b7,b9,b10,b11,b12,bw⟩:=hB
 have hk : ∀ {k : Nat} {cs : Array Value} {T : TypeId} {fz : Nat × Nat},W.heap[k]? = some (.cells cs T fz) → k < B → V.heap[k]? = some (.cells cs T fz):=
  fun {k cs T fz} hq hb=>(hg.block k (blk_lt hq) (fun e=>by have:=h1 k e.symm;omega)).trans hq
 exact ⟨hk h.q6 b6,hk h.q7 b7,hk h.q9 b9,hk h.q10 b10,hk h.q11 b11,hk h.q12 b12,ext_grownX h.E hg fun b e hl=>(by have:=h1 b e;omega),Nat.le_trans h.sz hg.size⟩
set_option maxRecDepth 100000 in
set_option maxHeartbeats 4000000 in
theorem xCorrect_ok (x : Vm) (hv : VOk x) (t : List Int) (ht : RcpOk x t) (s : List Int) (hs : SmpOk x s) (ls : List Int) (hl : LmpsOk x ls) (hll : ls.length ≤ 1000) (ta sa la : Option Addr) (tc sc lc : Nat) (w : World) (h : x.At w) (hp : IsRows w (.slice ta t.length tc) 1 (t.map intRow)) (hr : IsRows w (.slice sa s.length sc) 1 (s.map intRow)) (hq : IsRows w (.slice la ls.length lc) 1 (ls.map intRow)) :
  Calls Try.prog 20 #[.agg #[.int .i64 x.B,.slice x.da x.D.length x.dc,.slice x.la x.L.length x.lc,.int .i64 x.tol],.slice ta t.length tc,.slice sa s.length sc,.slice la ls.length lc] w (IntsPost (corR x t (val s) ls) w):=by
 have E : Ext [] w w:=Ext.refl _ _
 have HX:=Lib.hid h
 have HV:=Lib.hid hv
 have HS:=Lib.hid hs
 have HR:=Lib.hid hr
 have HQ:=Lib.hid hq
 have HP:=Lib.hid hp
 have HL:=Lib.hid hl
 have HT:=Lib.hid ht
 have HTS:=Lib.hid ht.tub
 have hd4:=hv.d4
 obtain ⟨hnd,hrl⟩:=recL_all x.D.length (by omega)
 have HRL:=Lib.hid hrl
 clear h hv hs hr hq hl hnd hrl ht hp
 refine calls_hasM 64 Try.func20 rfl Try.ntmps20 (Nat.le_of_ble_eq_true rfl) ?_
 intro fa F
 refine wp_seq_k fun K1 hK1=>?_
 refine wp_region_lit ?_
 refine sq_new F rfl (by decide) rfl (R_box rfl (F.at rfl)) ?_;clear F fa;intro fa w1 F hw
 obtain ⟨n4,hn⟩ : ∃ n,n = w.heap.size:=⟨_,rfl⟩
 rw [← hn] at F
 have s4 : w.heap.size ≤ n4:=Nat.le_of_eq hn.symm
 have l4_E : w.heap.size ≤ n4:=by rw [hn];exact E.size
 replace E:=ext_alloc E hw
 have q4:=new_row hw hn
 clear hw hn
 refine sq_new F rfl (by decide) rfl (R_box rfl (F.at rfl)) ?_;clear F fa;intro fa w2 F hw
 obtain ⟨n6,hn⟩ : ∃ n,n = w1.heap.size:=⟨_,rfl⟩
 rw [← hn] at F
 have s6 : w1.heap.size ≤ n6:=Nat.le_of_eq hn.symm
 have l6_E : w.heap.size ≤ n6:=by rw [hn];exact E.size
 have m6_4 : n4 < n6:=by rw [hn];exact blk_lt q4
 replace q4:=keep_alloc hw q4
 replace E:=ext_alloc E hw
 have q6:=new_one hw rfl hn
 clear hw hn
 refine sq_new F rfl (by decide) rfl (R_box rfl (F.at rfl)) ?_;clear F fa;intro fa w3 F hw
 obtain ⟨n7,hn⟩ : ∃ n,n = w2.heap.size:=⟨_,rfl⟩
 rw [← hn] at F
 have s7 : w2.heap.size ≤ n7:=Nat.le_of_eq hn.symm
 have l7_E : w.heap.size ≤ n7:=by rw [hn];exact E.size
 have m7_4 : n4 < n7:=by rw [hn];exact blk_lt q4
 have m7_6 : n6 < n7:=by rw [hn];exact blk_lt q6
 replace q4:=keep_alloc hw q4
 replace q6:=keep_alloc hw q6
 replace E:=ext_alloc E hw
 have q7:=new_one hw rfl hn
 clear hw hn
 refine F.vl (R_assign rfl (ev_c fa _)) ?_;clear F fa;intro fa F
 refine sq_new F rfl (by decide) rfl (R_alloc rfl Try.zeroValue35) ?_;clear F fa;intro fa w4 F hw
 obtain ⟨n9,hn⟩ : ∃ n,n = w3.heap.size:=⟨_,rfl⟩
 rw [← hn] at F
 have s9 : w3.heap.size ≤ n9:=Nat.le_of_eq hn.symm
 have l9_E : w.heap.size ≤ n9:=by rw [hn];exact E.size
 have m9_4 : n4 < n9:=by rw [hn];exact blk_lt q4
 have m9_6 : n6 < n9:=by rw [hn];exact blk_lt q6
 have m9_7 : n7 < n9:=by rw [hn];exact blk_lt q7
 replace q4:=keep_alloc hw q4
 replace q6:=keep_alloc hw q6
 replace q7:=keep_alloc hw q7
 replace E:=ext_alloc E hw
 have q9:=new_one hw rfl hn
 clear hw hn
 refine wpList_nil ?_
 refine hK1 _ _ ?_
 clear hK1
 refine wp_scope_straight ?_
 refine wp_seq_k fun K2 hK2=>?_
 refine wp_region_lit ?_
 refine sq_defer F rfl rfl (R_defer rfl rfl (mpS (F.at rfl) mp0)) ?_;clear F fa;intro fa F
 refine wpList_nil ?_
 refine hK2 _ _ ?_
 clear hK2
 refine wp_seq_k fun K3 hK3=>?_
 refine wp_region_lit ?_
 refine F.vl (R_loadBlk rfl (F.at rfl) Try.underlying24 rfl (by kernel_rfl) q4) ?_;clear F fa;intro fa F
 refine sq_call F rfl (by decide) rfl (R_callV rfl rfl Try.call54 (mpS (F.at rfl) mp0)) (begin_ok x HV.out _ (HX.out.ext E)) fun e w5 hR=>?_
 obtain ⟨rfl,e9⟩:=hR
 refine ⟨_,rfl,?_⟩;clear F fa;intro fa F
 replace q4:=(e9).keep0 q4
 replace q6:=(e9).keep0 q6
 replace q7:=(e9).keep0 q7
 replace q9:=(e9).keep0 q9
 replace E:=ext_same E (e9)
 clear e9
 refine sq_new F rfl (by decide) rfl (R_alloc rfl Try.zeroValue80) ?_;clear F fa;intro fa w6 F hw
 obtain ⟨n10,hn⟩ : ∃ n,n = w5.heap.size:=⟨_,rfl⟩
 rw [← hn] at F
 have s10 : w5.heap.size ≤ n10:=Nat.le_of_eq hn.symm
 have l10_E : w.heap.size ≤ n10:=by rw [hn];exact E.size
 have m10_4 : n4 < n10:=by rw [hn];exact blk_lt q4
 have m10_6 : n6 < n10:=by rw [hn];exact blk_lt q6
 have m10_7 : n7 < n10:=by rw [hn];exact blk_lt q7
 have m10_9 : n9 < n10:=by rw [hn];exact blk_lt q9
 replace q4:=keep_alloc hw q4
 replace q6:=keep_alloc hw q6
 replace q7:=keep_alloc hw q7
 replace q9:=keep_alloc hw q9
 replace E:=ext_alloc E hw
 have q10:=new_row hw hn
 clear hw hn
 refine sq_to rfl rfl (R_storeRow rfl (F.at rfl) (F.at rfl) (by kernel_rfl) (by first | (simp [Value.oneCell'];done) | (simp [Value.oneCell',id];done)) q10 rfl) ?_;intro w7 hw
 replace q4:=keep_cells hw q4 (by omega)
 replace q6:=keep_cells hw q6 (by omega)
 replace q7:=keep_cells hw q7 (by omega)
 replace q9:=keep_cells hw q9 (by omega)
 replace q10:=put_row hw q10 rfl
 replace E:=ext_cells E hw (fun h=>by first | exact absurd h (by omega) | simp)
 clear hw
 refine wpList_nil ?_
 refine hK3 _ _ ?_
 clear hK3
 refine wp_seq_k fun K4 hK4=>?_
 refine wp_region_lit ?_
 refine F.vl (R_loadBlk rfl (F.at rfl) Try.underlying80 rfl (by kernel_rfl) q10) ?_;clear F fa;intro fa F
 refine F.mv ?_;clear F fa;intro fa F
 refine sq_call F rfl (by decide) rfl (R_callV rfl rfl Try.call55 (mpS (F.at rfl) (mpS (F.at rfl) mp0))) (recipe_ok x HV.out t HT.out ta tc _ (HP.out.ext E (by simp))) fun e w8 hR=>?_
 obtain ⟨rfl,e9⟩:=hR
 refine ⟨_,rfl,?_⟩;clear F fa;intro fa F
 replace q4:=(e9).keep0 q4
 replace q6:=(e9).keep0 q6
 replace q7:=(e9).keep0 q7
 replace q9:=(e9).keep0 q9
 replace q10:=(e9).keep0 q10
 replace E:=ext_same E (e9)
 clear e9
 refine sq_new F rfl (by decide) rfl (R_alloc rfl Try.zeroValue83) ?_;clear F fa;intro fa w9 F hw
 obtain ⟨n11,hn⟩ : ∃ n,n = w8.heap.size:=⟨_,rfl⟩
 rw [← hn] at F
 have s11 : w8.heap.size ≤ n11:=Nat.le_of_eq hn.symm
 have l11_E : w.heap.size ≤ n11:=by rw [hn];exact E.size
 have m11_4 : n4 < n11:=by rw [hn];exact blk_lt q4
 have m11_6 : n6 < n11:=by rw [hn];exact blk_lt q6
 have m11_7 : n7 < n11:=by rw [hn];exact blk_lt q7
 have m11_9 : n9 < n11:=by rw [hn];exact blk_lt q9
 have m11_10 : n10 < n11:=by rw [hn];exact blk_lt q10
 replace q4:=keep_alloc hw q4
 replace q6:=keep_alloc hw q6
 replace q7:=keep_alloc hw q7
 replace q9:=keep_alloc hw q9
 replace q10:=keep_alloc hw q10
 replace E:=ext_alloc E hw
 have q11:=new_row hw hn
 clear hw hn
 refine sq_to rfl rfl (R_storeRow rfl (F.at rfl) (F.at rfl) (by kernel_rfl) (by simp [tubC,Value.oneCell']) q11 rfl) ?_;intro w10 hw
 replace q4:=keep_cells hw q4 (by omega)
 replace q6:=keep_cells hw q6 (by omega)
 replace q7:=keep_cells hw q7 (by omega)
 replace q9:=keep_cells hw q9 (by omega)
 replace q10:=keep_cells hw q10 (by omega)
 replace q11:=put_row hw q11 rfl
 replace E:=ext_cells E hw (fun h=>by first | exact absurd h (by omega) | simp)
 clear hw
 refine wpList_nil ?_
 refine hK4 _ _ ?_
 clear hK4
 refine wp_seq_k fun K5 hK5=>?_
 refine wp_region_lit ?_
 refine F.vl (R_loadBlk rfl (F.at rfl) Try.underlying80 rfl (by kernel_rfl) q10) ?_;clear F fa;intro fa F
 refine F.vl (R_load rfl (F.at rfl) Try.underlying25 rfl ((cells_of_block q6 0).trans (get0))) ?_;clear F fa;intro fa F
 refine sq_call F rfl (by decide) rfl (R_callV rfl rfl Try.call56 (mpS (F.at rfl) (mpS (F.at rfl) mp0))) (sample_ok x HV.out s HS.out sa sc _ (HR.out.ext E (by simp))) fun e w11 hR=>?_
 obtain ⟨rfl,e9⟩:=hR
 refine ⟨_,rfl,?_⟩;clear F fa;intro fa F
 replace q4:=(e9).keep0 q4
 replace q6:=(e9).keep0 q6
 replace q7:=(e9).keep0 q7
 replace q9:=(e9).keep0 q9
 replace q10:=(e9).keep0 q10
 replace q11:=(e9).keep0 q11
 replace E:=ext_same E (e9)
 clear e9
 refine wpList_nil ?_
 refine hK5 _ _ ?_
 clear hK5
 refine wp_seq_k fun K6 hK6=>?_
 refine wp_region_lit ?_
 refine F.vl (R_loadBlk rfl (F.at rfl) Try.underlying80 rfl (by kernel_rfl) q10) ?_;clear F fa;intro fa F
 refine F.vl (R_load rfl (F.at rfl) Try.underlying25 rfl ((cells_of_block q7 0).trans (get0))) ?_;clear F fa;intro fa F
 refine sq_call F rfl (by decide) rfl (R_callV rfl rfl Try.call57 (mpS (F.at rfl) (mpS (F.at rfl) mp0))) (lamps_ok x HV.out ls HL.out hll la lc _ (HX.out.ext E) (HQ.out.ext E (by simp))) fun e w12 hR=>?_
 obtain ⟨rfl,e9⟩:=hR
 refine ⟨_,rfl,?_⟩;clear F fa;intro fa F
 replace q4:=(e9).keep0 q4
 replace q6:=(e9).keep0 q6
 replace q7:=(e9).keep0 q7
 replace q9:=(e9).keep0 q9
 replace q10:=(e9).keep0 q10
 replace q11:=(e9).keep0 q11
 replace E:=ext_same E (e9)
 clear e9
 refine wpList_nil ?_
 refine hK6 _ _ ?_
 clear hK6
 refine wp_seq_k fun K7 hK7=>?_
 refine wp_region_lit ?_
 refine sq_new F rfl (by decide) rfl (R_alloc rfl Try.zeroValue88) ?_;clear F fa;intro fa w13 F hw
 obtain ⟨n12,hn⟩ : ∃ n,n = w12.heap.size:=⟨_,rfl⟩
 rw [← hn] at F
 have s12 : w12.heap.size ≤ n12:=Nat.le_of_eq hn.symm
 have l12_E : w.heap.size ≤ n12:=by rw [hn];exact E.size
 have m12_4 : n4 < n12:=by rw [hn];exact blk_lt q4
 have m12_6 : n6 < n12:=by rw [hn];exact blk_lt q6
 have m12_7 : n7 < n12:=by rw [hn];exact blk_lt q7
 have m12_9 : n9 < n12:=by rw [hn];exact blk_lt q9
 have m12_10 : n10 < n12:=by rw [hn];exact blk_lt q10
 have m12_11 : n11 < n12:=by rw [hn];exact blk_lt q11
 replace q4:=keep_alloc hw q4
 replace q6:=keep_alloc hw q6
 replace q7:=keep_alloc hw q7
 replace q9:=keep_alloc hw q9
 replace q10:=keep_alloc hw q10
 replace q11:=keep_alloc hw q11
 replace E:=ext_alloc E hw
 have q12:=new_row hw hn
 clear hw hn
 refine wpList_nil ?_
 replace q12 : w13.heap[n12]? = some (.cells (nearO (mrG t) (mrC t) (corO x t (val s) ls [])) 88 (0,0)):=q12
 refine hK7 _ _ ?_
 clear hK7
 refine wp_seq_k fun K8 hK8=>?_
 refine wp_label ?_
 refine hK8 _ _ ?_
 clear hK8
 refine wp_seq_k fun K9 hK9=>?_
 refine wp_seq_k fun K10 hK10=>?_
 refine wp_region_lit ?_
 refine F.vl (R_loadBlk rfl (F.at rfl) Try.underlying80 rfl (by kernel_rfl) q10) ?_;clear F fa;intro fa F
 have b12':=blk_lt q12
 refine sq_call F rfl (by decide) rfl (R_callV rfl rfl Try.call58 (mpS (F.at rfl) mp0)) (recipes_any x _) fun e w14 hR=>?_
 obtain ⟨nb,rfl,hnb,qb,e9⟩:=hR
 refine ⟨_,rfl,?_⟩;clear F fa;intro fa F
 replace q4:=(e9).keep0 q4
 replace q6:=(e9).keep0 q6
 replace q7:=(e9).keep0 q7
 replace q9:=(e9).keep0 q9
 replace q10:=(e9).keep0 q10
 replace q11:=(e9).keep0 q11
 replace q12:=(e9).keep0 q12
 replace E:=ext_same E (e9)
 clear e9
 refine wpList_nil ?_
 refine hK10 _ _ ?_
 clear hK10
 refine wp_block ?_
 clear q4
 obtain ⟨w3,hw3⟩ : ∃ w3,w3 = w14:=⟨_,rfl⟩
 have b6:=blk_lt q6
 have b7:=blk_lt q7
 have b9:=blk_lt q9
 have b10:=blk_lt q10
 have b11:=blk_lt q11
 have b12:=blk_lt q12
 have bb:=blk_lt qb
 have bw:=E.size
 have hr0 : rowOf n12 w14 = none:=rowOf_near q12
 have hseq:=recipes1_seq x hd4 [] n12 nb w14 b12 (by simp) (fun r e=>by rw [hr0] at e;cases e) ⟨by simp,by omega,by rw [hr0];simp⟩ qb
 have hI0 : CorI x t (.slice sa s.length sc) (.slice la ls.length lc) w w14.heap.size n6 n7 n9 n10 n11 n12 (corO x t (val s) ls []) w14:=⟨q6,q7,q9,q10,q11,q12,E,Nat.le_refl _⟩
 replace F:=F.sub (.c 6 rfl (.c 7 rfl (.c 9 rfl (.c 10 rfl (.c 11 rfl (.c 12 rfl (.c 28 rfl .n)))))))
 refine range_R (F.at rfl) Try.call102 hseq (fun _=>rfl) b12 (fun pre W=>CorI x t (.slice sa s.length sc) (.slice la ls.length lc) w w14.heap.size n6 n7 n9 n10 n11 n12 (corO x t (val s) ls pre) W) ?h1 ?ho ?hc hI0 (fun pre q a' W=>∃ nt,Has 64 [] a' [(6,.pointer (some ⟨n6,0,none⟩)),(7,.pointer (some ⟨n7,0,none⟩)),(9,.pointer (some ⟨n9,0,none⟩)),(10,.pointer (some ⟨n10,0,none⟩)),(11,.pointer (some ⟨n11,0,none⟩)),(12,.pointer (some ⟨n12,0,none⟩)),(13,.pointer (some ⟨nt,0,none⟩))] ∧ CorI x t (.slice sa s.length sc) (.slice la ls.length lc) w w14.heap.size n6 n7 n9 n10 n11 n12 (corO x t (val s) ls pre) W ∧ W.heap[nt]? = some (.cells (tubC (val q)) 83 (0,0)) ∧ w14.heap.size ≤ nt) ?hax ?assign ?body ?done
 case h1=>rintro pre U V hI hg;exact hI.kept hg (fun r e=>by cases e) ⟨b6,b7,b9,b10,b11,b12,bw⟩
 case ho=>rintro pre U V r hI hr ⟨o,ho,hc⟩ hg;exact hI.kept hg (fun r' e=>by cases e;exact hr) ⟨b6,b7,b9,b10,b11,b12,bw⟩
 case hc=>rintro pre U V r hI hr hsf - hg;exact hI.kept hg (fun r' e=>by cases e;exact hr) ⟨b6,b7,b9,b10,b11,b12,bw⟩
 case hax=>rintro pre q a' U V r ⟨nt,hF,hI,hnt,hn⟩ hr ⟨o,ho,hc⟩ hg;refine ⟨nt,hF,hI.kept hg (fun r' e=>by cases e;exact hr) ⟨b6,b7,b9,b10,b11,b12,bw⟩,(hg.block nt (blk_lt hnt) (fun e=>?_)).trans hnt,hn⟩;cases e;rw [ho] at hnt;cases hnt;cases hc
 case assign =>
  clear q6 q7 q9 q10 q11 q12 qb E hI0
  rintro l pre q W K ⟨q6,q7,q9,q10,q11,q12,E,hsz⟩ hK
  have hbo:=blk_lt q12
  refine wpIn_act (F.param (p:=29) (by decide) (.agg (tubC (val q)))) ?_
  clear F fa
  intro fa F
  have ER : Ext [] W W:=Ext.refl _ _
  refine wpI_region_lit rfl (fun h=>by obtain ⟨_,_,h⟩:=h;exact h) ?_
  refine sq_new F rfl (by decide) rfl (R_alloc rfl Try.zeroValue83) ?_;clear F fa;intro fa w15 F hw
  obtain ⟨n13,hn⟩ : ∃ n,n = W.heap.size:=⟨_,rfl⟩
  rw [← hn] at F
  have s13 : W.heap.size ≤ n13:=Nat.le_of_eq hn.symm
  have l13_E : w.heap.size ≤ n13:=by rw [hn];exact E.size
  have l13_ER : W.heap.size ≤ n13:=by rw [hn];exact ER.size
  have m13_6 : n6 < n13:=by rw [hn];exact blk_lt q6
  have m13_7 : n7 < n13:=by rw [hn];exact blk_lt q7
  have m13_9 : n9 < n13:=by rw [hn];exact blk_lt q9
  have m13_10 : n10 < n13:=by rw [hn];exact blk_lt q10
  have m13_11 : n11 < n13:=by rw [hn];exact blk_lt q11
  have m13_12 : n12 < n13:=by rw [hn];exact blk_lt q12
  replace q6:=keep_alloc hw q6
  replace q7:=keep_alloc hw q7
  replace q9:=keep_alloc hw q9
  replace q10:=keep_alloc hw q10
  replace q11:=keep_alloc hw q11
  replace q12:=keep_alloc hw q12
  replace E:=ext_alloc E hw
  replace ER:=ext_alloc ER hw
  have q13:=new_row hw hn
  clear hw hn
  refine sq_to rfl rfl (R_storeRow rfl (F.at rfl) (F.at rfl) (by kernel_rfl) (by simp [tubC,Value.oneCell']) q13 rfl) ?_;intro w16 hw
  replace q6:=keep_cells hw q6 (by omega)
  replace q7:=keep_cells hw q7 (by omega)
  replace q9:=keep_cells hw q9 (by omega)
  replace q10:=keep_cells hw q10 (by omega)
  replace q11:=keep_cells hw q11 (by omega)
  replace q12:=keep_cells hw q12 (by omega)
  replace q13:=put_row hw q13 rfl
  replace E:=ext_cells E hw (fun h=>by first | exact absurd h (by omega) | simp)
  replace ER:=ext_cells ER hw (fun h=>by first | exact absurd h (by omega) | simp)
  clear hw
  refine wpList_nil ?_
  exact hK _ _ (keeps_ext ER (by simp)) (keepR_ext0 ER hbo) ⟨n13,F.sub (.c 6 rfl (.c 7 rfl (.c 9 rfl (.c 10 rfl (.c 11 rfl (.c 12 rfl (.c 13 rfl .n))))))),⟨q6,q7,q9,q10,q11,q12,E,Nat.le_trans hsz ER.size⟩,q13,by omega⟩
 case body =>
  clear q6 q7 q9 q10 q11 q12 qb E hI0 F fa
  rintro l pre q fa W0 ⟨nt,F,⟨q6,q7,q9,q10,q11,q12,E,hsz⟩,q13,hnt⟩ hpx
  have hqm : q ∈ recL x.D.length:=hpx.subset (by simp)
  obtain ⟨hql,hqs,hqg,hq1,hq6,hqb⟩:=HRL.out q hqm
  have hro : rowOf n12 W0 = none:=rowOf_near q12
  have ER : Ext [n12] W0 W0:=Ext.refl _ _
  have hsz0:=hsz
  refine wpIn_block ?_
  refine wpIn_seq_k fun K11 hK11=>?_
  refine wpI_region_lit rfl (fun h=>by obtain ⟨_,_,h⟩:=h;exact h) ?_
  refine sq_new F rfl (by decide) rfl (R_alloc rfl Try.zeroValue83) ?_;clear F fa;intro fa w17 F hw
  obtain ⟨n14,hn⟩ : ∃ n,n = W0.heap.size:=⟨_,rfl⟩
  rw [← hn] at F
  have s14 : W0.heap.size ≤ n14:=Nat.le_of_eq hn.symm
  have l14_E : w.heap.size ≤ n14:=by rw [hn];exact E.size
  have l14_ER : W0.heap.size ≤ n14:=by rw [hn];exact ER.size
  have m14_6 : n6 < n14:=by rw [hn];exact blk_lt q6
  have m14_7 : n7 < n14:=by rw [hn];exact blk_lt q7
  have m14_9 : n9 < n14:=by rw [hn];exact blk_lt q9
  have m14_10 : n10 < n14:=by rw [hn];exact blk_lt q10
  have m14_11 : n11 < n14:=by rw [hn];exact blk_lt q11
  have m14_12 : n12 < n14:=by rw [hn];exact blk_lt q12
  have m14_13 : nt < n14:=by rw [hn];exact blk_lt q13
  replace q6:=keep_alloc hw q6
  replace q7:=keep_alloc hw q7
  replace q9:=keep_alloc hw q9
  replace q10:=keep_alloc hw q10
  replace q11:=keep_alloc hw q11
  replace q12:=keep_alloc hw q12
  replace q13:=keep_alloc hw q13
  replace E:=ext_alloc E hw
  replace ER:=ext_alloc ER hw
  have q14:=new_row hw hn
  clear hw hn
  refine wpList_nil ?_
  replace q14 : w17.heap[n14]? = some (.cells (tubC (mrF t q 0)) 83 (0,0)):=by rw [mrF_zero];exact q14
  refine hK11 _ _ ?_
  clear hK11
  refine wpIn_seq_k fun K12 hK12=>?_
  refine wpIn_seq_k fun K13 hK13=>?_
  refine wpI_region_lit rfl (fun h=>by obtain ⟨_,_,h⟩:=h;exact h) ?_
  refine F.vl (R_move rfl (ev_c fa _)) ?_;clear F fa;intro fa F
  refine wpList_nil ?_
  refine hK13 _ _ ?_
  clear hK13
  refine wpIn_block ?_
  have F0:=F.sub (.c 6 rfl (.c 7 rfl (.c 10 rfl (.c 11 rfl (.c 12 rfl (.c 13 rfl (.c 14 rfl .n)))))))
  refine lpI_for F0 (4) (fun i Lv W=>Lv = [(30,.int .i64 ((i : Nat) : Int))] ∧ Ext [] w W ∧ Ext [n12] W0 W ∧ W.heap[n6]? = some (.cells #[.slice sa s.length sc] 25 (0,0)) ∧ W.heap[n7]? = some (.cells #[.slice la ls.length lc] 25 (0,0)) ∧ W.heap[n9]? = some (.cells #[.int .i64 0] 35 (0,0)) ∧ W.heap[n10]? = some (.cells #[.int .i64 x.B,.slice x.da x.D.length x.dc,.slice x.la x.L.length x.lc,.int .i64 x.tol] 80 (0,0)) ∧ W.heap[n11]? = some (.cells (tubC (val t)) 83 (0,0)) ∧ W.heap[n12]? = some (.cells (nearO (mrG t) (mrC t) (corO x t (val s) ls pre)) 88 (0,0)) ∧ W.heap[nt]? = some (.cells (tubC (val q)) 83 (0,0)) ∧ W.heap[n14]? = some (.cells (tubC (mrF t q i)) 83 (0,0)) ∧ ∀ j,j < i → 0 ≤ mrG t q j) ⟨_,⟨rfl,E,ER,q6,q7,q9,q10,q11,q12,q13,q14,(fun j h=>by omega)⟩,F.sub (.c 30 rfl (.c 6 rfl (.c 7 rfl (.c 10 rfl (.c 11 rfl (.c 12 rfl (.c 13 rfl (.c 14 rfl .n))))))))⟩ ?_
  clear F F0
  clear E ER q6 q7 q9 q10 q11 q12 q13 q14
  rintro i _ fa w18 hi1 ⟨rfl,E,ER,q6,q7,q9,q10,q11,q12,q13,q14,hge⟩ F
  refine wpIn_seq_k fun K14 hK14=>?_
  refine wpI_region_lit rfl (fun h=>by obtain ⟨_,_,h⟩:=h;exact h) ?_
  refine F.vl (R_lss rfl (F.at rfl) (ev_c fa _)) ?_;clear F fa;intro fa F
  refine wpList_nil ?_
  refine hK14 _ _ ?_
  clear hK14
  refine wpIn_seq_k fun K15 hK15=>?_
  refine cdI_if F rfl (fun hc31=>?_) (fun hc31=>?_)
  ·skip
   refine wpIn_skip ?_
   refine hK15 _ _ ?_
   clear hK15
   refine wpIn_seq_k fun K16 hK16=>?_
   refine wpIn_block ?_
   refine wpIn_seq_k fun K17 hK17=>?_
   refine wpI_region_lit rfl (fun h=>by obtain ⟨_,_,h⟩:=h;exact h) ?_
   refine F.mv ?_;clear F fa;intro fa F
   refine F.as ?_;clear F fa;intro fa F
   refine wpList_nil ?_
   refine hK17 _ _ ?_
   clear hK17
   refine wpIn_seq_k fun K18 hK18=>?_
   have hqi:=hqs i (by omega)
   have hti:=HTS.out i (by omega)
   have hmg : val q i - val t i = mrG t q i:=rfl
   refine region_xI (Ext [] w18) (some 9) follows rfl (fun h=>by obtain ⟨_,_,h⟩:=h;exact h) fun w19 hh eh=>?_
   have q6_:=q6
   replace q6:=keep_same hh q6
   have q7_:=q7
   replace q7:=keep_same hh q7
   have q9_:=q9
   replace q9:=keep_same hh q9
   have q10_:=q10
   replace q10:=keep_same hh q10
   have q11_:=q11
   replace q11:=keep_same hh q11
   have q12_:=q12
   replace q12:=keep_same hh q12
   have q13_:=q13
   replace q13:=keep_same hh q13
   have q14_:=q14
   replace q14:=keep_same hh q14
   have E_:=E
   have zEw19:=E.size
   replace E:=ext_same E eh
   have ER_:=ER
   have zERw19:=ER.size
   replace ER:=ext_same ER eh
   have eT:=eh
   clear hh eh
   refine F.x (i:=0) rfl (fun w'=>R_move rfl (F.at rfl)) (fun _=>eT) ?_;clear F fa;intro fa F
   refine F.x (i:=1) rfl (fun w'=>R_move rfl (F.at rfl)) (fun _=>eT) ?_;clear F fa;intro fa F
   refine F.x (i:=2) rfl (fun w'=>R_ixArr (n:=4) (sz:=1) rfl (F.at rfl) (F.at rfl) Try.underlying83 (by kernel_rfl) (by omega) (by omega)) (fun _=>eT) ?_;clear F fa;intro fa F
   refine F.xr (i:=3) rfl (fun w' hS=>R_load rfl (F.at rfl) Try.underlying3 rfl (tub_at (hS.keep q13_ (by simp)) (k:=i) rfl (by omega))) (fun _=>eT) ?_;clear F fa;intro fa F
   refine F.x (i:=4) rfl (fun w'=>R_move rfl (F.at rfl)) (fun _=>eT) ?_;clear F fa;intro fa F
   refine F.x (i:=5) rfl (fun w'=>R_ixArr (n:=4) (sz:=1) rfl (F.at rfl) (F.at rfl) Try.underlying83 (by kernel_rfl) (by omega) (by omega)) (fun _=>eT) ?_;clear F fa;intro fa F
   refine F.xr (i:=6) rfl (fun w' hS=>R_load rfl (F.at rfl) Try.underlying3 rfl (tub_at (hS.keep q11_ (by simp)) (k:=i) rfl (by omega))) (fun _=>eT) ?_;clear F fa;intro fa F
   refine F.x (i:=7) rfl (fun w'=>R_sub rfl (F.at rfl) (F.at rfl) (by omega) (by omega)) (fun _=>eT) ?_;clear F fa;intro fa F
   refine F.x (i:=8) rfl (fun w'=>R_ixArr (n:=4) (sz:=1) rfl (F.at rfl) (F.at rfl) Try.underlying83 (by kernel_rfl) (by omega) (by omega)) (fun _=>eT) ?_;clear F fa;intro fa F
   refine ax_only (i:=9) (by kernel_rfl) (op_to rfl rfl rfl (R_store rfl (F.at rfl) (F.at rfl) rfl (by kernel_rfl) (tub_at q14 (k:=i) rfl (by omega)) (free_of_block q14 _)) ?_);intro w20 hw
   replace q6:=keep_cell hw q6 (by omega)
   replace q7:=keep_cell hw q7 (by omega)
   replace q9:=keep_cell hw q9 (by omega)
   replace q10:=keep_cell hw q10 (by omega)
   replace q11:=keep_cell hw q11 (by omega)
   replace q12:=keep_cell hw q12 (by omega)
   replace q13:=keep_cell hw q13 (by omega)
   replace q14:=put_tub hw q14 (k:=i) rfl (by omega)
   replace E:=ext_cell E hw (fun h=>by first | exact absurd h (by omega) | simp)
   replace ER:=ext_cell ER hw (fun h=>by first | exact absurd h (by omega) | simp)
   clear hw
   refine ⟨gone (by kernel_rfl),?_⟩
   rw [hmg,mrF_up] at q14
   refine ax_done (by kernel_rfl) ?_ _
   clear eT q6_ q7_ q9_ q10_ q11_ q12_ q13_ q14_ E_ ER_
   refine hK18 _ _ ?_
   clear hK18
   refine wpIn_seq_k fun K19 hK19=>?_
   refine wpI_region_lit rfl (fun h=>by obtain ⟨_,_,h⟩:=h;exact h) ?_
   refine F.mv ?_;clear F fa;intro fa F
   refine F.vl (R_ixArr (n:=4) (sz:=1) rfl (F.at rfl) (F.at rfl) Try.underlying83 (by kernel_rfl) (by omega) (by omega)) ?_;clear F fa;intro fa F
   refine F.vl (R_load rfl (F.at rfl) Try.underlying3 rfl (tub_at q14 (k:=i) rfl (by omega))) ?_;clear F fa;intro fa F
   rw [show mrF t q (i + 1) i = mrG t q i by simp [mrF]] at F
   refine F.vl (R_lss rfl (F.at rfl) (ev_c fa _)) ?_;clear F fa;intro fa F
   refine wpList_nil ?_
   refine hK19 _ _ ?_
   clear hK19
   refine cdI_if F rfl (fun hc45=>?_) (fun hc45=>?_)
   ·skip
    have hcb : corB x t (val s) ls q = false:=cor_neg (k:=i) (by omega) hc45
    refine wpIn_exit ?_
    try (rw [show i = 4 by omega,mrF_end] at q14;have hge4 : ∀ j,j < 4 → 0 ≤ mrG t q j:=fun j hj=>hge j (by omega))
    (try simp only [Exit.inBlock,reduceIte])
    show KeepsFrom _ _ _ ∧ KeepR _ _ _ _ ∧ _
    rw [← hw3]
    refine ⟨keeps_ext ER (by intro b hb;simp only [List.mem_cons,List.not_mem_nil,or_false] at hb;subst hb;exact .inl (by rw [hw3];exact b12)),keepR_ext ER (by intro k cs T fz hk hsf hm;simp only [List.mem_cons,List.not_mem_nil,or_false] at hm;exact hsf.2.1 hm) (.inl ((rowOf_near q12).trans hro.symm)),?_⟩
    have hsw : w3.heap.size ≤ w20.heap.size:=(by rw [hw3];exact Nat.le_trans hsz0 ER.size)
    show CorI _ _ _ _ _ _ _ _ _ _ _ _ (corO x t (val s) ls (pre ++ [q])) _
    first | exact ⟨q6,q7,q9,q10,q11,q12,E,hsw⟩ | (rw [corO_skip hcb];exact ⟨q6,q7,q9,q10,q11,q12,E,hsw⟩) | (rw [corO_skip (hco.trans hc51)];exact ⟨q6,q7,q9,q10,q11,q12,E,hsw⟩)
   ·skip
    refine wpIn_skip ?_
    refine hK16 _ _ ?_
    clear hK16
    refine wpI_region_lit rfl (fun h=>by obtain ⟨_,_,h⟩:=h;exact h) ?_
    refine F.vl (R_add rfl (F.at rfl) (ev_c fa _) (by omega) (by omega)) ?_;clear F fa;intro fa F
    refine F.mv ?_;clear F fa;intro fa F
    refine wpList_nil ?_
    show _ ∧ _
    exact ⟨by omega,_,⟨rfl,E,ER,q6,q7,q9,q10,q11,q12,q13,q14,(fun j h=>by rcases Nat.lt_succ_iff_lt_or_eq.1 h with h | rfl;(· exact hge j h);(· omega))⟩,F.sub (.c 30 rfl (.c 6 rfl (.c 7 rfl (.c 10 rfl (.c 11 rfl (.c 12 rfl (.c 13 rfl (.c 14 rfl .n))))))))⟩
  ·skip
   refine wpIn_exit ?_
   try (rw [show i = 4 by omega,mrF_end] at q14;have hge4 : ∀ j,j < 4 → 0 ≤ mrG t q j:=fun j hj=>hge j (by omega))
   refine hK12 _ _ ?_
   clear hK12
   refine wpIn_seq_k fun K20 hK20=>?_
   refine wpI_region_lit rfl (fun h=>by obtain ⟨_,_,h⟩:=h;exact h) ?_
   refine F.vl (R_loadBlk rfl (F.at rfl) Try.underlying80 rfl (by kernel_rfl) q10) ?_;clear F fa;intro fa F
   refine F.vl (R_loadBlk rfl (F.at rfl) Try.underlying83 rfl (by kernel_rfl) q13) ?_;clear F fa;intro fa F
   refine F.vl (R_load rfl (F.at rfl) Try.underlying25 rfl ((cells_of_block q6 0).trans (get0))) ?_;clear F fa;intro fa F
   refine F.vl (R_load rfl (F.at rfl) Try.underlying25 rfl ((cells_of_block q7 0).trans (get0))) ?_;clear F fa;intro fa F
   refine sq_call F rfl (by decide) rfl (R_callV rfl rfl Try.call59 (mpS (F.at rfl) (mpS (F.at rfl) (mpS (F.at rfl) (mpS (F.at rfl) mp0))))) (match_ok x HV.out (val q) hqs s HS.out ls HL.out.2.1 hll sa la sc lc _ (HX.out.ext E) (HR.out.ext E (by simp)) (HQ.out.ext E (by simp))) fun e w21 hR=>?_
   obtain ⟨rfl,e9⟩:=hR
   refine ⟨_,rfl,?_⟩;clear F fa;intro fa F
   replace q6:=(e9).keep0 q6
   replace q7:=(e9).keep0 q7
   replace q9:=(e9).keep0 q9
   replace q10:=(e9).keep0 q10
   replace q11:=(e9).keep0 q11
   replace q12:=(e9).keep0 q12
   replace q13:=(e9).keep0 q13
   replace q14:=(e9).keep0 q14
   replace E:=ext_same E (e9)
   replace ER:=ext_same ER (e9)
   clear e9
   refine wpList_nil ?_
   have hco:=cor_ok (x:=x) (s:=val s) (ls:=ls) hge4
   refine hK20 _ _ ?_
   clear hK20
   refine cdI_b F rfl (fun hc51=>?_) (fun hc51=>?_)
   ·skip
    refine region_xI (Ext [n12] w21) none follows rfl (fun h=>by obtain ⟨_,_,h⟩:=h;exact h) fun w22 hh eh=>?_
    have q6_:=q6
    replace q6:=keep_same hh q6
    have q7_:=q7
    replace q7:=keep_same hh q7
    have q9_:=q9
    replace q9:=keep_same hh q9
    have q10_:=q10
    replace q10:=keep_same hh q10
    have q11_:=q11
    replace q11:=keep_same hh q11
    have q12_:=q12
    replace q12:=keep_same hh q12
    have q13_:=q13
    replace q13:=keep_same hh q13
    have q14_:=q14
    replace q14:=keep_same hh q14
    have E_:=E
    have zEw22:=E.size
    replace E:=ext_same E eh
    have ER_:=ER
    have zERw22:=ER.size
    replace ER:=ext_same ER eh
    have eT:=eh.mono (Y:=[n12]) (by simp)
    clear hh eh
    refine F.xr (i:=0) rfl (fun w' hS=>R_loadBlk rfl (F.at rfl) Try.underlying83 rfl (by kernel_rfl) (hS.keep q14_ (by simp;omega))) (fun _=>eT) ?_;clear F fa;intro fa F
    refine F.xr (i:=1) rfl (fun w' hS=>R_loadBlk rfl (F.at rfl) Try.underlying83 rfl (by kernel_rfl) (hS.keep q14_ (by simp;omega))) (fun _=>eT) ?_;clear F fa;intro fa F
    have hmb : ∀ k,k < 4 → 0 ≤ mrG t q k ∧ mrG t q k ≤ 1000:=fun k hk=>⟨hge4 k hk,by have:=hqs k hk;have:=HTS.out k hk;rw [mrG];omega⟩
    refine ax_only (i:=2) (by kernel_rfl) (op_call F rfl rfl (by decide) rfl (R_callV rfl rfl Try.call61 (mpS (F.at rfl) mp0)) (parts_any (mrG t q) hmb _) fun e w23 hR=>?_)
    obtain ⟨rfl,e9⟩:=hR
    refine ⟨_,rfl,?_⟩;clear F fa;intro fa F
    replace q6:=(e9).keep0 q6
    replace q7:=(e9).keep0 q7
    replace q9:=(e9).keep0 q9
    replace q10:=(e9).keep0 q10
    replace q11:=(e9).keep0 q11
    replace q12:=(e9).keep0 q12
    replace q13:=(e9).keep0 q13
    replace q14:=(e9).keep0 q14
    replace E:=ext_same E (e9)
    replace ER:=ext_same ER (e9)
    replace eT:=ext_same eT (e9)
    clear e9
    refine ⟨fun _=>eT,?_⟩
    refine F.x (i:=3) rfl (fun w'=>R_buildV rfl (prS (F.at rfl) pr0) (cells:=#[.int .i64 (prt (mrG t q)),.int .i64 0]) (by kernel_rfl)) (fun _=>eT) ?_;clear F fa;intro fa F
    refine ax_only (i:=4) (by kernel_rfl) (op_call F rfl rfl (by decide) rfl (R_callV rfl rfl Try.call60 (mpS (F.at rfl) (mpS (F.at rfl) (mpS (F.at rfl) mp0)))) (offer_any (mrG t) (mrC t) n12 (corO x t (val s) ls pre) q _ q12) fun e w24 hR=>?_)
    obtain ⟨rfl,q12',e9⟩:=hR
    refine ⟨_,rfl,?_⟩;clear F fa;intro fa F
    replace q6:=(e9).keep q6 (by simp;omega)
    replace q7:=(e9).keep q7 (by simp;omega)
    replace q9:=(e9).keep q9 (by simp;omega)
    replace q10:=(e9).keep q10 (by simp;omega)
    replace q11:=(e9).keep q11 (by simp;omega)
    replace q13:=(e9).keep q13 (by simp;omega)
    replace q14:=(e9).keep q14 (by simp;omega)
    replace E:=E.trans' e9 (fun i hi hl=>by simp only [List.mem_cons,List.not_mem_nil,or_false] at hi ⊢;omega)
    replace ER:=ER.trans' e9 (fun i hi hl=>by simp only [List.mem_cons,List.not_mem_nil,or_false] at hi ⊢;omega)
    replace eT:=eT.trans' e9 (fun i hi hl=>by simp only [List.mem_cons,List.not_mem_nil,or_false] at hi ⊢;omega)
    refine ⟨fun _=>eT,?_⟩
    rw [← corO_take (hco.trans hc51)] at q12'
    replace q12:=q12'
    clear q12'
    refine ax_done (by kernel_rfl) ?_ _
    clear eT q6_ q7_ q9_ q10_ q11_ q12_ q13_ q14_ E_ ER_
    (try simp only [Exit.inBlock,reduceIte])
    show KeepsFrom _ _ _ ∧ KeepR _ _ _ _ ∧ _
    rw [← hw3]
    refine ⟨keeps_ext ER (by intro b hb;simp only [List.mem_cons,List.not_mem_nil,or_false] at hb;subst hb;exact .inl (by rw [hw3];exact b12)),keepR_ext ER (by intro k cs T fz hk hsf hm;simp only [List.mem_cons,List.not_mem_nil,or_false] at hm;exact hsf.2.1 hm) (.inl ((rowOf_near q12).trans hro.symm)),?_⟩
    have hsw : w3.heap.size ≤ w24.heap.size:=(by rw [hw3];exact Nat.le_trans hsz0 ER.size)
    show CorI _ _ _ _ _ _ _ _ _ _ _ _ (corO x t (val s) ls (pre ++ [q])) _
    first | exact ⟨q6,q7,q9,q10,q11,q12,E,hsw⟩ | (rw [corO_skip hcb];exact ⟨q6,q7,q9,q10,q11,q12,E,hsw⟩) | (rw [corO_skip (hco.trans hc51)];exact ⟨q6,q7,q9,q10,q11,q12,E,hsw⟩)
   ·skip
    refine wpIn_skip ?_
    (try simp only [Exit.inBlock,reduceIte])
    show KeepsFrom _ _ _ ∧ KeepR _ _ _ _ ∧ _
    rw [← hw3]
    refine ⟨keeps_ext ER (by intro b hb;simp only [List.mem_cons,List.not_mem_nil,or_false] at hb;subst hb;exact .inl (by rw [hw3];exact b12)),keepR_ext ER (by intro k cs T fz hk hsf hm;simp only [List.mem_cons,List.not_mem_nil,or_false] at hm;exact hsf.2.1 hm) (.inl ((rowOf_near q12).trans hro.symm)),?_⟩
    have hsw : w3.heap.size ≤ w21.heap.size:=(by rw [hw3];exact Nat.le_trans hsz0 ER.size)
    show CorI _ _ _ _ _ _ _ _ _ _ _ _ (corO x t (val s) ls (pre ++ [q])) _
    first | exact ⟨q6,q7,q9,q10,q11,q12,E,hsw⟩ | (rw [corO_skip hcb];exact ⟨q6,q7,q9,q10,q11,q12,E,hsw⟩) | (rw [corO_skip (hco.trans hc51)];exact ⟨q6,q7,q9,q10,q11,q12,E,hsw⟩)
 case done =>
  clear q6 q7 q9 q10 q11 q12 qb E hI0
  rintro D W hD ⟨q6,q7,q9,q10,q11,q12,E,hsz⟩ qD
  replace F:=F.mark (d:={ target:=.collected D,args:=#[] })
  refine hK9 _ _ ?_
  clear hK9
  refine wp_seq_k fun K21 hK21=>?_
  refine wp_seq_k fun K22 hK22=>?_
  by_cases hN : corO x t (val s) ls (recL x.D.length) = none
  ·skip
   replace q12 : W.heap[n12]? = some (.cells #[.int .i64 (zf 0),.int .i64 (zf 1),.int .i64 (zf 2),.int .i64 (zf 3),.int .i64 0,.int .i64 0,.bool false] 88 (0,0)):=by rw [hN] at q12;exact q12
   refine wp_region_lit ?_
   refine F.vl (R_field rfl (F.at rfl) Try.underlying88 rfl (n:=6) (sz:=1) rfl (by kernel_rfl) (by decide)) ?_;clear F fa;intro fa F
   refine F.vl (R_load rfl (F.at rfl) Try.underlying4 rfl ((cells_of_block q12 6).trans (getS (getS (getS (getS (getS (getS (get0))))))))) ?_;clear F fa;intro fa F
   refine F.vl (R_not rfl (F.at rfl)) ?_;clear F fa;intro fa F
   refine wpList_nil ?_
   refine hK22 _ _ ?_
   clear hK22
   refine cd_T F rfl ?_
   refine wp_seq_k fun K23 hK23=>?_
   refine wp_region_lit ?_
   refine F.vl (R_assign rfl (ev_c fa _)) ?_;clear F fa;intro fa F
   refine sq_to rfl rfl (R_store rfl (F.at rfl) (ev_c fa _) rfl (by kernel_rfl) ((cells_of_block q9 0).trans (get0)) (free_of_block q9 0)) ?_;intro w25 hw
   replace q6:=keep_cell hw q6 (by omega)
   replace q7:=keep_cell hw q7 (by omega)
   replace q9:=put_cell hw q9 (by simp only [List.setIfInBounds_toArray,lsQ,lzQ];exact rfl)
   replace q10:=keep_cell hw q10 (by omega)
   replace q11:=keep_cell hw q11 (by omega)
   replace q12:=keep_cell hw q12 (by omega)
   replace qD:=keep_cell hw qD (by omega)
   replace E:=ext_cell E hw (fun h=>by first | exact absurd h (by omega) | simp)
   clear hw
   refine wpList_nil ?_
   refine hK23 _ _ ?_
   clear hK23
   refine wp_ret ?_
   (try simp only [Exit.inBlock,Exit.then,reduceIte])
   refine rtM_v F ?_
   refine lv_mark qD fun w26 hw=>?_
   replace q6:=keep_putW hw qD rfl q6
   replace q7:=keep_putW hw qD rfl q7
   replace q9:=keep_putW hw qD rfl q9
   replace q10:=keep_putW hw qD rfl q10
   replace q11:=keep_putW hw qD rfl q11
   replace q12:=keep_putW hw qD rfl q12
   replace E:=ext_putW E hw (by omega)
   clear hw qD
   refine lv_caught ?_
   refine lv_nil (rs_tc F rfl rfl rfl Try.underlying35 rfl q9) ?_
   rw [corR,hN]
   exact ⟨none,0,rfl,World.ownsRow_nil _ _ _ _,E⟩
  ·skip
   obtain ⟨q,hq⟩:=Option.ne_none_iff_exists'.1 hN
   replace q12 : W.heap[n12]? = some (.cells #[.int .i64 (mrG t q 0),.int .i64 (mrG t q 1),.int .i64 (mrG t q 2),.int .i64 (mrG t q 3),.int .i64 (mrC t q).1,.int .i64 (mrC t q).2,.bool true] 88 (0,0)):=by rw [hq] at q12;exact q12
   refine wp_region_lit ?_
   refine F.vl (R_field rfl (F.at rfl) Try.underlying88 rfl (n:=6) (sz:=1) rfl (by kernel_rfl) (by decide)) ?_;clear F fa;intro fa F
   refine F.vl (R_load rfl (F.at rfl) Try.underlying4 rfl ((cells_of_block q12 6).trans (getS (getS (getS (getS (getS (getS (get0))))))))) ?_;clear F fa;intro fa F
   refine F.vl (R_not rfl (F.at rfl)) ?_;clear F fa;intro fa F
   refine wpList_nil ?_
   refine hK22 _ _ ?_
   clear hK22
   refine cd_F F rfl ?_
   refine wp_skip ?_
   refine hK21 _ _ ?_
   clear hK21
   refine wp_seq_k fun K24 hK24=>?_
   refine wp_region_lit ?_
   refine F.vl (R_loadBlk rfl (F.at rfl) Try.underlying80 rfl (by kernel_rfl) q10) ?_;clear F fa;intro fa F
   refine F.vl (R_field rfl (F.at rfl) Try.underlying88 rfl (n:=0) (sz:=4) rfl (by kernel_rfl) (by decide)) ?_;clear F fa;intro fa F
   refine F.vl (R_loadRow rfl (F.at rfl) Try.underlying83 rfl (by kernel_rfl) (range_mid' (n:=4) q12 rfl (midS (get0) (midS (getS (get0)) (midS (getS (getS (get0))) (midS (getS (getS (getS (get0)))) mid0)))))) ?_;clear F fa;intro fa F
   have hEs:=E.size
   refine sq_call F rfl (by decide) rfl (R_callV rfl rfl Try.call62 (mpS (F.at rfl) (mpS (F.at rfl) mp0))) (cut_ok x HV.out (mrG t q) _) fun e w27 hR=>?_
   obtain ⟨ca,cc,rfl,oo,e9⟩:=hR
   refine ⟨_,rfl,?_⟩;clear F fa;intro fa F
   replace q6:=(e9).keep0 q6
   replace q7:=(e9).keep0 q7
   replace q9:=(e9).keep0 q9
   replace q10:=(e9).keep0 q10
   replace q11:=(e9).keep0 q11
   replace q12:=(e9).keep0 q12
   replace qD:=(e9).keep0 qD
   replace E:=ext_same E (e9)
   clear e9
   replace oo:=owns_lower oo hEs
   refine F.as ?_;clear F fa;intro fa F
   refine sq_to rfl rfl (R_store rfl (F.at rfl) (ev_c fa _) rfl (by kernel_rfl) ((cells_of_block q9 0).trans (get0)) (free_of_block q9 0)) ?_;intro w28 hw
   replace oo:=owns_cellX hw oo (own_ne_type oo q9 (by decide))
   replace q6:=keep_cell hw q6 (by omega)
   replace q7:=keep_cell hw q7 (by omega)
   replace q9:=put_cell hw q9 (by simp only [List.setIfInBounds_toArray,lsQ,lzQ];exact rfl)
   replace q10:=keep_cell hw q10 (by omega)
   replace q11:=keep_cell hw q11 (by omega)
   replace q12:=keep_cell hw q12 (by omega)
   replace qD:=keep_cell hw qD (by omega)
   replace E:=ext_cell E hw (fun h=>by first | exact absurd h (by omega) | simp)
   clear hw
   refine wpList_nil ?_
   refine hK24 _ _ ?_
   clear hK24
   refine wp_ret ?_
   (try simp only [Exit.inBlock,Exit.then,reduceIte])
   refine rtM_v F ?_
   refine lv_mark qD fun w29 hw=>?_
   replace oo:=owns_put hw qD rfl oo
   replace q6:=keep_putW hw qD rfl q6
   replace q7:=keep_putW hw qD rfl q7
   replace q9:=keep_putW hw qD rfl q9
   replace q10:=keep_putW hw qD rfl q10
   replace q11:=keep_putW hw qD rfl q11
   replace q12:=keep_putW hw qD rfl q12
   replace E:=ext_putW E hw (by omega)
   clear hw qD
   refine lv_caught ?_
   refine lv_nil (rs_tc F rfl rfl rfl Try.underlying35 rfl q9) ?_
   rw [corR,hq]
   refine ⟨ca,cc,?_,?_,E⟩
   ·simp only [cutL_len]
   ·simp only [cutL_len];exact oo
end Go.Proofs.Ytdjeecgddbjbeaa
namespace Go.Proofs.Ytdjeecgddbjbeaa
open Go.RowKit
section
variable (c : Int → Int → Int)
def swp (l : List Int) (j : Nat) : List Int:=(l.set (j + 1) (l.getD j 0)).set j (l.getD (j + 1) 0)
def bubL : List Int → Nat → List Int
 | l,0=>l
 | l,j + 1=>if c (l.getD (j + 1) 0) (l.getD j 0) < 0 then bubL (swp l j) j else l
def srtK (l : List Int) : Nat → List Int
 | 0=>l
 | k + 1=>bubL c (srtK l k) (k + 1)
def srtL (l : List Int) : List Int:=srtK c l (l.length - 1)
theorem swp_len (l : List Int) (j : Nat) : (swp l j).length = l.length:=by simp [swp]
theorem swp_mem {l : List Int} {j : Nat} (h : j + 1 < l.length) {p : Int → Prop} (hp : ∀ n ∈ l,p n) : ∀ n ∈ swp l j,p n:=by
 intro n hn
 rcases List.mem_or_eq_of_mem_set hn with hn | rfl
 ·rcases List.mem_or_eq_of_mem_set hn with hn | rfl
  ·exact hp n hn
  ·exact hp _ (getD_mem 0 (by omega))
 ·exact hp _ (getD_mem 0 h)
theorem bub_len : ∀ (j : Nat) (l : List Int),(bubL c l j).length = l.length
 | 0,_=>rfl
 | j + 1,l=>by
  rw [bubL]
  split
  ·rw [bub_len j,swp_len]
  ·rfl
theorem bub_mem {p : Int → Prop} : ∀ (j : Nat) (l : List Int),j < l.length → (∀ n ∈ l,p n) → ∀ n ∈ bubL c l j,p n
 | 0,_,_,h=>h
 | j + 1,l,hj,h=>by
  rw [bubL]
  split
  ·exact bub_mem j _ (by rw [swp_len];omega) (swp_mem hj h)
  ·exact h
theorem srt_len (l : List Int) : ∀ k,(srtK c l k).length = l.length
 | 0=>rfl
 | k + 1=>by rw [srtK,bub_len,srt_len l k]
theorem srt_mem {p : Int → Prop} (l : List Int) (h : ∀ n ∈ l,p n) : ∀ k,k < l.length → ∀ n ∈ srtK c l k,p n
 | 0,_=>h
 | k + 1,hk=>by rw [srtK];exact bub_mem c _ _ (by rw [srt_len];exact hk) (srt_mem l h k (by omega))
theorem bub_stop {l : List Int} {j : Nat} (h : ¬ c (l.getD (j + 1) 0) (l.getD j 0) < 0) : bubL c l (j + 1) = l:=by rw [bubL,if_neg h]
theorem bub_go {l : List Int} {j : Nat} (h : c (l.getD (j + 1) 0) (l.getD j 0) < 0) : bubL c l (j + 1) = bubL c (swp l j) j:=by rw [bubL,if_pos h]
end
set_option maxRecDepth 100000 in
set_option maxHeartbeats 2000000 in
theorem isort_any (f : FuncId) (cs : Array Value) (c : Int → Int → Int) (p : Int → Prop) (base r n : Nat) (a : Option Addr) (ca : Nat) (l : List Int) (w : World) (hn : l.length = n) (h1 : n ≤ 1000) (hp : ∀ m ∈ l,p m) (ho : w.ownsRow base 3 1 (.slice a n ca) n (ivs l)) (hr : ∀ b,(Value.slice a n ca).ownBlock = some b → b = r)
  (hf : ∀ args w,(callFunc f args).run Try.prog w = .ok (.enter f args) w) (hc : ∀ W,Ext [r] w W → ∀ m k,p m → p k → Calls Try.prog f (#[] ++ [Value.int .i64 m,Value.int .i64 k].toArray ++ cs) W fun e W'=>e = .returned (.int .i64 (c m k)) ∧ Ext [] W W') :
  Calls Try.prog 120 #[.slice a n ca,.int .i64 0,.int .i64 ((n : Nat) : Int),.func (.func f) #[] cs] w fun e w'=>e = .returned (.tuple #[]) ∧ w'.ownsRow base 3 1 (.slice a n ca) n (ivs (srtL c l)) ∧ Ext [r] w w':=by
 have E : Ext [r] w w:=Ext.refl _ _
 have HC:=Lib.hid hc
 have HF:=Lib.hid hf
 have HP:=Lib.hid hp
 have HR:=Lib.hid hr
 replace ho : w.ownsRow base 3 1 (.slice a n ca) n (ivs (srtK c l 0)):=ho
 clear hc hf hp hr
 refine calls_has 53 Try.func120 rfl Try.ntmps120 (Nat.le_of_ble_eq_true rfl) ?_
 intro fa F
 refine wp_seq_k fun K1 hK1=>?_
 refine wp_region_lit ?_
 refine F.mv ?_;clear F fa;intro fa F
 refine F.vl (R_add rfl (F.at rfl) (ev_c fa _) (by omega) (by omega)) ?_;clear F fa;intro fa F
 rw [show (0 : Int) + 1 = ((0 + 1 : Nat) : Int) from rfl] at F
 refine F.as ?_;clear F fa;intro fa F
 refine wpList_nil ?_
 refine hK1 _ _ ?_
 clear hK1
 refine wp_block ?_
 have F0:=F.sub (.c 0 rfl (.c 1 rfl (.c 2 rfl (.c 3 rfl .n))))
 refine lp_for F0 (n) (fun i Lv W=>Lv = [(8,.int .i64 ((i + 1 : Nat) : Int))] ∧ Ext [r] w W ∧ W.ownsRow base 3 1 (.slice a n ca) n (ivs (srtK c l i)) ∧ (i < n ∨ (i = 0 ∧ n = 0))) ⟨_,⟨rfl,E,ho,(by omega)⟩,F.sub (.c 8 rfl (.c 0 rfl (.c 1 rfl (.c 2 rfl (.c 3 rfl .n)))))⟩ ?_
 clear F F0
 clear E
 clear ho
 rintro i _ fa w1 hi1 ⟨rfl,E,ho,hin⟩ F
 refine wp_seq_k fun K2 hK2=>?_
 refine wp_seq_k fun K3 hK3=>?_
 refine wp_region_lit ?_
 refine F.mv ?_;clear F fa;intro fa F
 refine F.mv ?_;clear F fa;intro fa F
 refine F.vl (R_lss rfl (F.at rfl) (F.at rfl)) ?_;clear F fa;intro fa F
 refine wpList_nil ?_
 refine hK3 _ _ ?_
 clear hK3
 refine cd_if F rfl (fun hc14=>?_) (fun hc14=>?_)
 ·skip
  refine wp_skip ?_
  refine hK2 _ _ ?_
  clear hK2
  refine wp_seq_k fun K4 hK4=>?_
  refine wp_block ?_
  refine wp_seq_k fun K5 hK5=>?_
  refine wp_region_lit ?_
  refine F.mv ?_;clear F fa;intro fa F
  refine F.as ?_;clear F fa;intro fa F
  refine wpList_nil ?_
  refine hK5 _ _ ?_
  clear hK5
  refine wp_block ?_
  have F0:=F.sub (.c 0 rfl (.c 1 rfl (.c 2 rfl (.c 3 rfl (.c 8 rfl .n)))))
  refine lp_for F0 (i + 1) (fun k Lv W=>∃ j : Nat,∃ l2 : List Int,Lv = [(9,.int .i64 ((j : Nat) : Int))] ∧ Ext [r] w W ∧ W.ownsRow base 3 1 (.slice a n ca) n (ivs l2) ∧ j + k = i + 1 ∧ l2.length = n ∧ bubL c l2 j = srtK c l (i + 1) ∧ ∀ m ∈ l2,p m) ⟨_,⟨_,_,rfl,E,ho,(by omega),(by rw [srt_len];exact hn),rfl,(srt_mem c l HP.out i (by omega))⟩,F.sub (.c 9 rfl (.c 0 rfl (.c 1 rfl (.c 2 rfl (.c 3 rfl (.c 8 rfl .n))))))⟩ ?_
  clear F F0
  clear E
  clear ho
  rintro k _ fa w2 hi2 ⟨j,l2,rfl,E,ho,hjk,hl2,hb2,hm2⟩ F
  refine wp_seq_k fun K6 hK6=>?_
  refine wp_seq_k fun K7 hK7=>?_
  by_cases hj0 : j = 0
  ·skip
   subst hj0
   refine wp_region_st 14 follows (by kernel_rfl) fun w3 hh eh=>?_
   replace E:=ext_same E eh
   replace ho:=owns_same hh ho
   clear hh eh
   refine F.smv ?_;clear F fa;intro fa F
   refine F.smv ?_;clear F fa;intro fa F
   refine F.sv (R_gtrB (b:=false) rfl (F.at rfl) (F.at rfl) (decide_eq_false (by omega))) ?_;clear F fa;intro fa F
   refine F.smv ?_;clear F fa;intro fa F
   refine st_no F rfl (by decide) (wantF F rfl rfl (by decide) rfl (by decide)) ?_;clear F fa;intro fa F
   refine st_no F rfl (by decide) (wantF F rfl rfl (by decide) rfl (by decide)) ?_;clear F fa;intro fa F
   refine st_no F rfl (by decide) (wantF F rfl rfl (by decide) rfl (by decide)) ?_;clear F fa;intro fa F
   refine st_no F rfl (by decide) (wantF F rfl rfl (by decide) rfl (by decide)) ?_;clear F fa;intro fa F
   refine st_no F rfl (by decide) (wantF F rfl rfl (by decide) rfl (by decide)) ?_;clear F fa;intro fa F
   refine st_no F rfl (by decide) (wantF F rfl rfl (by decide) rfl (by decide)) ?_;clear F fa;intro fa F
   refine st_no F rfl (by decide) (wantF F rfl rfl (by decide) rfl (by decide)) ?_;clear F fa;intro fa F
   refine st_no F rfl (by decide) (wantF F rfl rfl (by decide) rfl (by decide)) ?_;clear F fa;intro fa F
   refine st_no F rfl (by decide) (wantF F rfl rfl (by decide) rfl (by decide)) ?_;clear F fa;intro fa F
   refine st_no F rfl (by decide) (wantF F rfl rfl (by decide) rfl (by decide)) ?_;clear F fa;intro fa F
   refine wpStill_nil ?_
   refine sq_no F rfl (by decide) (wantF F rfl rfl (by decide) rfl (by decide)) ?_;clear F fa;intro fa F
   refine sq_no F rfl (by decide) (wantF F rfl rfl (by decide) rfl (by decide)) ?_;clear F fa;intro fa F
   refine F.vl (R_pickF rfl (F.at rfl) (ev_c fa _)) ?_;clear F fa;intro fa F
   refine wpList_nil ?_
   rw [show l2 = srtK c l (i + 1) from hb2] at ho
   refine hK7 _ _ ?_
   clear hK7
   refine cd_F F rfl ?_
   refine wp_exit ?_
   refine hK4 _ _ ?_
   clear hK4
   refine wp_region_lit ?_
   refine F.mv ?_;clear F fa;intro fa F
   refine F.vl (R_add rfl (F.at rfl) (ev_c fa _) (by omega) (by omega)) ?_;clear F fa;intro fa F
   rw [show ((i + 1 : Nat) : Int) + 1 = ((i + 1 + 1 : Nat) : Int) from rfl] at F
   refine F.as ?_;clear F fa;intro fa F
   refine wpList_nil ?_
   show _ ∧ _
   exact ⟨by omega,_,⟨rfl,E,ho,(by omega)⟩,F.sub (.c 8 rfl (.c 0 rfl (.c 1 rfl (.c 2 rfl (.c 3 rfl .n)))))⟩
  ·skip
   obtain ⟨j,rfl⟩ : ∃ j',j = j' + 1:=⟨j - 1,by omega⟩
   have EX : Ext [] w2 w2:=Ext.refl _ _
   have HS:=Lib.hid (slAt_of_ivs ho hl2.symm [] (by simp))
   refine wp_region_st 14 follows (by kernel_rfl) fun w4 hh eh=>?_
   replace E:=ext_same E eh
   replace EX:=ext_same EX eh
   replace ho:=owns_same hh ho
   clear hh eh
   refine F.smv ?_;clear F fa;intro fa F
   refine F.smv ?_;clear F fa;intro fa F
   refine F.sv (R_gtrB (b:=true) rfl (F.at rfl) (F.at rfl) (decide_eq_true (by omega))) ?_;clear F fa;intro fa F
   refine F.smv ?_;clear F fa;intro fa F
   refine F.smv ?_ (hw:=(wantT F rfl rfl (by decide) rfl));clear F fa;intro fa F
   refine F.smv ?_ (hw:=(wantT F rfl rfl (by decide) rfl));clear F fa;intro fa F
   refine F.smv ?_ (hw:=(wantT F rfl rfl (by decide) rfl));clear F fa;intro fa F
   obtain ⟨xb8,xo8,xa8,xr8⟩:=HS.out (j + 1) (by omega)
   refine F.sv (R_ixSlice (sz:=1) rfl ((F.at rfl).trans (xa8 _ _)) (F.at rfl) Try.underlying25 (by kernel_rfl) (by omega) (by omega)) ?_ (hw:=(wantT F rfl rfl (by decide) rfl));clear F fa;intro fa F
   refine F.sv (R_load rfl (F.at rfl) Try.underlying3 rfl (xr8 _ EX 0 _ rfl)) ?_ (hw:=(wantT F rfl rfl (by decide) rfl));clear F fa;intro fa F
   refine F.smv ?_ (hw:=(wantT F rfl rfl (by decide) rfl));clear F fa;intro fa F
   refine F.smv ?_ (hw:=(wantT F rfl rfl (by decide) rfl));clear F fa;intro fa F
   refine F.sv (R_sub rfl (F.at rfl) (ev_c fa _) (by omega) (by omega)) ?_ (hw:=(wantT F rfl rfl (by decide) rfl));clear F fa;intro fa F
   rw [show ((j + 1 : Nat) : Int) - 1 = ((j : Nat) : Int) by omega] at F
   obtain ⟨xb9,xo9,xa9,xr9⟩:=HS.out j (by omega)
   refine F.sv (R_ixSlice (sz:=1) rfl ((F.at rfl).trans (xa9 _ _)) (F.at rfl) Try.underlying25 (by kernel_rfl) (by omega) (by omega)) ?_ (hw:=(wantT F rfl rfl (by decide) rfl));clear F fa;intro fa F
   refine F.sv (R_load rfl (F.at rfl) Try.underlying3 rfl (xr9 _ EX 0 _ rfl)) ?_ (hw:=(wantT F rfl rfl (by decide) rfl));clear F fa;intro fa F
   refine wpStill_nil ?_
   refine sq_call F rfl (by decide) (wantT F rfl rfl (by decide) rfl) (R_callF rfl (F.at rfl) HF.out (mpS (F.at rfl) (mpS (F.at rfl) mp0)) rfl) (HC.out _ E (l2.getD (j + 1) 0) (l2.getD j 0) (hm2 _ (getD_mem 0 (by omega))) (hm2 _ (getD_mem 0 (by omega)))) fun e w5 hR=>?_
   obtain ⟨rfl,e9⟩:=hR
   refine ⟨_,rfl,?_⟩;clear F fa;intro fa F
   replace ho:=owns_ext ho (e9) (by simp)
   replace E:=ext_same E (e9)
   replace EX:=ext_same EX (e9)
   clear e9
   refine F.vl (R_lss rfl (F.at rfl) (ev_c fa _)) ?_ (hw:=(wantT F rfl rfl (by decide) rfl));clear F fa;intro fa F
   refine F.vl (R_pickT rfl (F.at rfl) (F.at rfl)) ?_;clear F fa;intro fa F
   refine wpList_nil ?_
   refine hK7 _ _ ?_
   clear hK7
   refine cd_if F rfl (fun hc34=>?_) (fun hc34=>?_)
   ·skip
    refine wp_skip ?_
    refine hK6 _ _ ?_
    clear hK6
    refine wp_seq_k fun K10 hK10=>?_
    refine wp_block ?_
    have EX : Ext [] w5 w5:=Ext.refl _ _
    have HS:=Lib.hid (slAt_of_ivs ho hl2.symm [] (by simp))
    have hil:=ivs_lenZ l2
    refine region_x (Ext [] w5) (some 15) follows fun w6 hh eh=>?_
    have E_:=E
    have zEw6:=E.size
    replace E:=ext_same E eh
    have EX_:=EX
    have zEXw6:=EX.size
    replace EX:=ext_same EX eh
    replace ho:=owns_same hh ho
    have eT:=eh
    clear hh eh
    refine F.x (i:=0) rfl (fun w'=>R_move rfl (F.at rfl)) (fun _=>eT) ?_;clear F fa;intro fa F
    refine F.x (i:=1) rfl (fun w'=>R_move rfl (F.at rfl)) (fun _=>eT) ?_;clear F fa;intro fa F
    refine F.x (i:=2) rfl (fun w'=>R_move rfl (F.at rfl)) (fun _=>eT) ?_;clear F fa;intro fa F
    refine F.x (i:=3) rfl (fun w'=>R_move rfl (F.at rfl)) (fun _=>eT) ?_;clear F fa;intro fa F
    refine F.x (i:=4) rfl (fun w'=>R_sub rfl (F.at rfl) (ev_c fa _) (by omega) (by omega)) (fun _=>eT) ?_;clear F fa;intro fa F
    rw [show ((j + 1 : Nat) : Int) - 1 = ((j : Nat) : Int) by omega] at F
    refine F.x (i:=5) rfl (fun w'=>R_move rfl (F.at rfl)) (fun _=>eT) ?_;clear F fa;intro fa F
    refine F.x (i:=6) rfl (fun w'=>R_move rfl (F.at rfl)) (fun _=>eT) ?_;clear F fa;intro fa F
    refine F.x (i:=7) rfl (fun w'=>R_sub rfl (F.at rfl) (ev_c fa _) (by omega) (by omega)) (fun _=>eT) ?_;clear F fa;intro fa F
    rw [show ((j + 1 : Nat) : Int) - 1 = ((j : Nat) : Int) by omega] at F
    obtain ⟨xb11,xo11,xa11,xr11⟩:=HS.out j (by omega)
    refine F.x (i:=8) rfl (fun w'=>R_ixSlice (sz:=1) rfl ((F.at rfl).trans (xa11 _ _)) (F.at rfl) Try.underlying25 (by kernel_rfl) (by omega) (by omega)) (fun _=>eT) ?_;clear F fa;intro fa F
    refine F.xr (i:=9) rfl (fun w' hS=>R_load rfl (F.at rfl) Try.underlying3 rfl (xr11 _ (EX_.nil hS) 0 _ rfl)) (fun _=>eT) ?_;clear F fa;intro fa F
    refine F.x (i:=10) rfl (fun w'=>R_move rfl (F.at rfl)) (fun _=>eT) ?_;clear F fa;intro fa F
    refine F.x (i:=11) rfl (fun w'=>R_move rfl (F.at rfl)) (fun _=>eT) ?_;clear F fa;intro fa F
    obtain ⟨xb12,xo12,xa12,xr12⟩:=HS.out (j + 1) (by omega)
    refine F.x (i:=12) rfl (fun w'=>R_ixSlice (sz:=1) rfl ((F.at rfl).trans (xa12 _ _)) (F.at rfl) Try.underlying25 (by kernel_rfl) (by omega) (by omega)) (fun _=>eT) ?_;clear F fa;intro fa F
    refine F.xr (i:=13) rfl (fun w' hS=>R_load rfl (F.at rfl) Try.underlying3 rfl (xr12 _ (EX_.nil hS) 0 _ rfl)) (fun _=>eT) ?_;clear F fa;intro fa F
    obtain ⟨xb13,xo13,xa13,xr13⟩:=HS.out (j + 1) (by omega)
    refine F.x (i:=14) rfl (fun w'=>R_ixSlice (sz:=1) rfl ((F.at rfl).trans (xa13 _ _)) (F.at rfl) Try.underlying25 (by kernel_rfl) (by omega) (by omega)) (fun _=>eT) ?_;clear F fa;intro fa F
    obtain ⟨⟨u0,hcu⟩,hfu,hst⟩:=owns_at ho xa13 (j:=(j + 1)) (p:=xo13 + ((j + 1 : Nat) : Int).toNat * 1) (by first | omega | (simp;omega)) (by omega)
    refine ax_only (i:=15) (by kernel_rfl) (op_to rfl rfl rfl (R_store rfl (F.at rfl) (F.at rfl) rfl (by kernel_rfl) hcu hfu) ?_);intro w7 hw
    obtain ⟨hown',hg⟩:=hst _ _ hw
    clear hst hcu hfu hw
    replace E:=ext_grownX E hg (fun b hb hl=>by rw [HR.out b hb];simp)
    replace ho:=hown'
    clear hg
    refine ⟨gone (by kernel_rfl),?_⟩
    rw [ivs_setZ] at ho
    have hil2:=ivs_lenZ (l2.set (j + 1) (l2.getD j 0))
    rw [List.length_set] at hil2
    obtain ⟨xb14,xo14,xa14,xr14⟩:=HS.out j (by omega)
    refine F.x (i:=16) rfl (fun w'=>R_ixSlice (sz:=1) rfl ((F.at rfl).trans (xa14 _ _)) (F.at rfl) Try.underlying25 (by kernel_rfl) (by omega) (by omega)) (gone (by kernel_rfl)) ?_;clear F fa;intro fa F
    obtain ⟨⟨u0,hcu⟩,hfu,hst⟩:=owns_at ho xa14 (j:=j) (p:=xo14 + ((j : Nat) : Int).toNat * 1) (by first | omega | (simp;omega)) (by omega)
    refine ax_only (i:=17) (by kernel_rfl) (op_to rfl rfl rfl (R_store rfl (F.at rfl) (F.at rfl) rfl (by kernel_rfl) hcu hfu) ?_);intro w8 hw
    obtain ⟨hown',hg⟩:=hst _ _ hw
    clear hst hcu hfu hw
    replace E:=ext_grownX E hg (fun b hb hl=>by rw [HR.out b hb];simp)
    replace ho:=hown'
    clear hg
    refine ⟨gone (by kernel_rfl),?_⟩
    rw [ivs_setZ] at ho
    replace ho : w8.ownsRow base 3 1 (.slice a n ca) n (ivs (swp l2 j)):=ho
    refine ax_done (by kernel_rfl) ?_ _
    clear eT E_ EX_
    refine hK10 _ _ ?_
    clear hK10
    refine wp_region_lit ?_
    refine F.mv ?_;clear F fa;intro fa F
    refine F.vl (R_sub rfl (F.at rfl) (ev_c fa _) (by omega) (by omega)) ?_;clear F fa;intro fa F
    rw [show ((j + 1 : Nat) : Int) - 1 = ((j : Nat) : Int) by omega] at F
    refine F.as ?_;clear F fa;intro fa F
    refine wpList_nil ?_
    show _ ∧ _
    exact ⟨by omega,_,⟨_,_,rfl,E,ho,(by omega),(by rw [swp_len];exact hl2),((bub_go c hc34).symm.trans hb2),(swp_mem (by omega) hm2)⟩,F.sub (.c 9 rfl (.c 0 rfl (.c 1 rfl (.c 2 rfl (.c 3 rfl (.c 8 rfl .n))))))⟩
   ·skip
    rw [show l2 = srtK c l (i + 1) from (bub_stop c hc34).symm.trans hb2] at ho
    refine wp_exit ?_
    refine hK4 _ _ ?_
    clear hK4
    refine wp_region_lit ?_
    refine F.mv ?_;clear F fa;intro fa F
    refine F.vl (R_add rfl (F.at rfl) (ev_c fa _) (by omega) (by omega)) ?_;clear F fa;intro fa F
    rw [show ((i + 1 : Nat) : Int) + 1 = ((i + 1 + 1 : Nat) : Int) from rfl] at F
    refine F.as ?_;clear F fa;intro fa F
    refine wpList_nil ?_
    show _ ∧ _
    exact ⟨by omega,_,⟨rfl,E,ho,(by omega)⟩,F.sub (.c 8 rfl (.c 0 rfl (.c 1 rfl (.c 2 rfl (.c 3 rfl .n)))))⟩
 ·skip
  refine wp_exit ?_
  rw [show i = l.length - 1 by omega] at ho
  (try simp only [Exit.inBlock,Exit.then,reduceIte])
  refine rt_vn F (rs_0 rfl) ?_
  exact ⟨rfl,ho,E⟩
theorem slAt_extX {X : List Nat} {w W : World} {a : Option Addr} {sz n : Nat} {row : Nat → List Value} (h : SlAt [] w a sz n row) (e : Ext X w W) (hX : ∀ b ∈ X,w.heap.size ≤ b) : SlAt [] W a sz n row:=fun i hi=>by
 obtain ⟨b,off,h1,h2⟩:=h i hi
 refine ⟨b,off,h1,fun V e2 j v hv=>?_⟩
 have h3:=h2 w (Ext.refl _ _) j v hv
 have hb : b < w.heap.size:=by
  apply Classical.byContradiction
  intro hn
  rw [World.cell?] at h3
  simp [Array.getElem?_eq_none (show w.heap.size ≤ b by omega)] at h3
 rw [(e.nil e2).cell (a:=⟨b,off + i * sz + j,none⟩) hb (fun hm=>by have:=hX b hm;omega)]
 exact h3
theorem RowOf.extX {X : List Nat} {w w' : World} {v : Value} {xs : List Int} (h : RowOf w v xs) (e : Ext X w w') (hX : ∀ b ∈ X,w.heap.size ≤ b) : RowOf w' v xs:=by
 obtain ⟨a,c,h1,h2⟩:=h
 exact ⟨a,c,h1,h2.ext e hX⟩
theorem Vm.At.extX {X : List Nat} {x : Vm} {w W : World} (h : x.At w) (e : Ext X w W) (hX : ∀ b ∈ X,w.heap.size ≤ b) : x.At W:=
 ⟨⟨slAt_extX h.d.1 e hX,fun p hp=>(h.d.2 p hp).extX e hX⟩,⟨slAt_extX h.l.1 e hX,fun p hp=>(h.l.2 p hp).extX e hX⟩⟩
set_option maxRecDepth 100000 in
theorem stable_any (f : FuncId) (cs : Array Value) (c : Int → Int → Int) (p : Int → Prop) (base r n : Nat) (a : Option Addr) (ca : Nat) (l : List Int) (w : World) (hn : l.length = n) (h1 : n < 20) (hp : ∀ m ∈ l,p m) (ho : w.ownsRow base 3 1 (.slice a n ca) n (ivs l)) (hr : ∀ b,(Value.slice a n ca).ownBlock = some b → b = r)
  (hf : ∀ args w,(callFunc f args).run Try.prog w = .ok (.enter f args) w) (hc : ∀ W,Ext [r] w W → ∀ m k,p m → p k → Calls Try.prog f (#[] ++ [Value.int .i64 m,Value.int .i64 k].toArray ++ cs) W fun e W'=>e = .returned (.int .i64 (c m k)) ∧ Ext [] W W') :
  Calls Try.prog 114 #[.slice a n ca,.int .i64 ((n : Nat) : Int),.func (.func f) #[] cs] w fun e w'=>e = .returned (.tuple #[]) ∧ w'.ownsRow base 3 1 (.slice a n ca) n (ivs (srtL c l)) ∧ Ext [r] w w':=by
 have E : Ext [r] w w:=Ext.refl _ _
 have HC:=Lib.hid hc
 have HF:=Lib.hid hf
 have HP:=Lib.hid hp
 have HR:=Lib.hid hr
 clear hc hf hp hr
 refine calls_has 63 Try.func114 rfl Try.ntmps114 (Nat.le_of_ble_eq_true rfl) ?_
 intro fa F
 refine wp_seq_k fun K1 hK1=>?_
 refine wp_region_lit ?_
 refine F.vl (R_assign rfl (ev_c fa _)) ?_;clear F fa;intro fa F
 refine wpList_nil ?_
 refine hK1 _ _ ?_
 clear hK1
 refine wp_seq_k fun K2 hK2=>?_
 refine wp_region_lit ?_
 refine F.mv ?_;clear F fa;intro fa F
 refine F.vl (R_assign rfl (ev_c fa _)) ?_;clear F fa;intro fa F
 refine F.as ?_;clear F fa;intro fa F
 refine wpList_nil ?_
 refine hK2 _ _ ?_
 clear hK2
 refine wp_seq_k fun K3 hK3=>?_
 refine wp_block ?_
 have F0:=F.sub (.c 0 rfl (.c 1 rfl (.c 2 rfl (.c 6 rfl .n))))
 refine lp_for F0 (0) (fun i Lv W=>Lv = [(7,.int .i64 0),(8,.int .i64 20)] ∧ Ext [r] w W ∧ W.ownsRow base 3 1 (.slice a n ca) n (ivs l)) ⟨_,⟨rfl,E,ho⟩,F.sub (.c 7 rfl (.c 8 rfl (.c 0 rfl (.c 1 rfl (.c 2 rfl (.c 6 rfl .n))))))⟩ ?_
 clear F F0
 clear E ho
 rintro i _ fa w1 hi1 ⟨rfl,E,ho⟩ F
 refine wp_seq_k fun K4 hK4=>?_
 refine wp_seq_k fun K5 hK5=>?_
 refine wp_region_lit ?_
 refine F.mv ?_;clear F fa;intro fa F
 refine F.mv ?_;clear F fa;intro fa F
 refine F.vl (R_leq rfl (F.at rfl) (F.at rfl)) ?_;clear F fa;intro fa F
 refine wpList_nil ?_
 refine hK5 _ _ ?_
 clear hK5
 refine cd_Fb F rfl (decide_eq_false (by omega)) ?_
 refine wp_exit ?_
 refine hK3 _ _ ?_
 clear hK3
 refine wp_seq_k fun K6 hK6=>?_
 refine wp_region_lit ?_
 refine F.mv ?_;clear F fa;intro fa F
 refine F.mv ?_;clear F fa;intro fa F
 refine F.mv ?_;clear F fa;intro fa F
 refine F.mv ?_;clear F fa;intro fa F
 refine sq_call F rfl (by decide) rfl (R_callV rfl rfl Try.call120 (mpS (F.at rfl) (mpS (F.at rfl) (mpS (F.at rfl) (mpS (F.at rfl) mp0))))) (isort_any f cs c p base r n a ca l _ hn (by omega) HP.out ho HR.out HF.out (fun W e=>HC.out W (E.trans e))) fun e w2 hR=>?_
 obtain ⟨rfl,ho2,e9⟩:=hR
 refine ⟨_,rfl,?_⟩;clear F fa;intro fa F
 replace E:=E.trans' e9 (fun i hi hl=>by simp only [List.mem_cons,List.not_mem_nil,or_false] at hi ⊢;omega)
 replace ho:=ho2
 clear ho2 e9
 refine wpList_nil ?_
 refine hK6 _ _ ?_
 clear hK6
 refine wp_block ?_
 have F0:=F.sub (.c 0 rfl (.c 1 rfl (.c 2 rfl .n)))
 refine lp_for F0 (0) (fun i Lv W=>Lv = [(6,.int .i64 20)] ∧ Ext [r] w W ∧ W.ownsRow base 3 1 (.slice a n ca) n (ivs (srtL c l))) ⟨_,⟨rfl,E,ho⟩,F.sub (.c 6 rfl (.c 0 rfl (.c 1 rfl (.c 2 rfl .n))))⟩ ?_
 clear F F0
 clear E ho
 rintro i _ fa w3 hi2 ⟨rfl,E,ho⟩ F
 refine wp_seq_k fun K7 hK7=>?_
 refine wp_seq_k fun K8 hK8=>?_
 refine wp_region_lit ?_
 refine F.mv ?_;clear F fa;intro fa F
 refine F.mv ?_;clear F fa;intro fa F
 refine F.vl (R_lss rfl (F.at rfl) (F.at rfl)) ?_;clear F fa;intro fa F
 refine wpList_nil ?_
 refine hK8 _ _ ?_
 clear hK8
 refine cd_Fb F rfl (decide_eq_false (by omega)) ?_
 refine wp_exit ?_
 (try simp only [Exit.inBlock,Exit.then,reduceIte])
 refine rt_vn F (rs_0 rfl) ?_
 exact ⟨rfl,ho,E⟩
set_option maxRecDepth 100000 in
theorem sortF_any (f : FuncId) (cs : Array Value) (c : Int → Int → Int) (p : Int → Prop) (base r n : Nat) (a : Option Addr) (ca : Nat) (l : List Int) (w : World) (hn : l.length = n) (h1 : n < 20) (hp : ∀ m ∈ l,p m) (ho : w.ownsRow base 3 1 (.slice a n ca) n (ivs l)) (hr : ∀ b,(Value.slice a n ca).ownBlock = some b → b = r)
  (hf : ∀ args w,(callFunc f args).run Try.prog w = .ok (.enter f args) w) (hc : ∀ W,Ext [r] w W → ∀ m k,p m → p k → Calls Try.prog f (#[] ++ [Value.int .i64 m,Value.int .i64 k].toArray ++ cs) W fun e W'=>e = .returned (.int .i64 (c m k)) ∧ Ext [] W W') :
  Calls Try.prog 83 #[.slice a n ca,.func (.func f) #[] cs] w fun e w'=>e = .returned (.tuple #[]) ∧ w'.ownsRow base 3 1 (.slice a n ca) n (ivs (srtL c l)) ∧ Ext [r] w w':=by
 have E : Ext [r] w w:=Ext.refl _ _
 have HC:=Lib.hid hc
 have HF:=Lib.hid hf
 have HP:=Lib.hid hp
 have HR:=Lib.hid hr
 clear hc hf hp hr
 refine calls_has 9 Try.func83 rfl Try.ntmps83 (Nat.le_of_ble_eq_true rfl) ?_
 intro fa F
 refine wp_region_lit ?_
 refine F.mv ?_;clear F fa;intro fa F
 refine F.mv ?_;clear F fa;intro fa F
 refine F.vl (R_len rfl rfl (F.at rfl) Try.underlying25) ?_;clear F fa;intro fa F
 refine F.mv ?_;clear F fa;intro fa F
 refine sq_call F rfl (by decide) rfl (R_callV rfl rfl Try.call114 (mpS (F.at rfl) (mpS (F.at rfl) (mpS (F.at rfl) mp0)))) (stable_any f cs c p base r n a ca l _ hn h1 HP.out ho HR.out HF.out (fun W e=>HC.out W (E.trans e))) fun e w1 hR=>?_
 obtain ⟨rfl,ho2,e9⟩:=hR
 refine ⟨_,rfl,?_⟩;clear F fa;intro fa F
 replace E:=E.trans' e9 (fun i hi hl=>by simp only [List.mem_cons,List.not_mem_nil,or_false] at hi ⊢;omega)
 replace ho:=ho2
 clear ho2 e9
 refine wpList_nil ?_
 (try simp only [Exit.inBlock,Exit.then,reduceIte])
 refine rt_vn F (rs_0 rfl) ?_
 exact ⟨rfl,ho,E⟩
def shdE (x : Vm) (T : List (List Int)) (lp : Nat) (j k : Int) : Int:=
 cmpE (prt (val (T.getD k.toNat [])) * dotE (val (x.lamp lp)) (tnE x (val (T.getD j.toNat []))) x.B.toNat) (prt (val (T.getD j.toNat [])) * dotE (val (x.lamp lp)) (tnE x (val (T.getD k.toNat []))) x.B.toNat)
set_option maxRecDepth 100000 in
set_option maxHeartbeats 2000000 in
theorem shades1_ok (x : Vm) (hv : VOk x) (T : List (List Int)) (hT : ∀ t ∈ T,TubS (val t)) (ma : Option Addr) (mc n9 n8 n4 lp : Nat) (j k : Int) (hj0 : 0 ≤ j) (hj : j < T.length) (hk0 : 0 ≤ k) (hk : k < T.length) (hl : lp < x.L.length) (w : World) (h : x.At w)
  (q8 : w.heap[n8]? = some (.cells #[.int .i64 x.B,.slice x.da x.D.length x.dc,.slice x.la x.L.length x.lc,.int .i64 x.tol] 80 (0,0))) (q9 : w.heap[n9]? = some (.cells #[.slice ma T.length mc] 102 (0,0))) (q4 : w.heap[n4]? = some (.cells #[.int .i64 ((lp : Nat) : Int)] 3 (0,0)))
  (hs : SlAt [] w ma 4 T.length (fun i=>tubR (val (T.getD i [])))) (h6 : T.length ≤ 6) :
  Calls Try.prog 84 #[.int .i64 j,.int .i64 k,.pointer (some ⟨n9,0,none⟩),.pointer (some ⟨n8,0,none⟩),.pointer (some ⟨n4,0,none⟩)] w fun e w'=>e = .returned (.int .i64 (shdE x T lp j k)) ∧ Ext [] w w':=by
 have E : Ext [] w w:=Ext.refl _ _
 obtain ⟨j,rfl⟩:=Int.eq_ofNat_of_zero_le hj0
 obtain ⟨k,rfl⟩:=Int.eq_ofNat_of_zero_le hk0
 have HX:=Lib.hid h
 have HV:=Lib.hid hv
 have HT:=Lib.hid hT
 have HS:=Lib.hid hs
 have hb1:=hv.b1
 have hb3:=hv.b3
 obtain ⟨bn,hbn⟩ : ∃ bn : Nat,x.B = bn:=⟨x.B.toNat,by omega⟩
 have hbn2 : x.B.toNat = bn:=by omega
 have HF : RowKit.Hid (TubS (val (T.getD j []))):=Lib.hid (hT _ (getD_memL [] (by omega)))
 have HG : RowKit.Hid (TubS (val (T.getD k []))):=Lib.hid (hT _ (getD_memL [] (by omega)))
 obtain ⟨f,hf⟩ : ∃ f,f = val (T.getD j []):=⟨_,rfl⟩
 obtain ⟨g,hg⟩ : ∃ g,g = val (T.getD k []):=⟨_,rfl⟩
 have h1:=dot_bd hv hl (fun j=>tn_bd hv HF.out j) (n:=bn) (by omega)
 have h2:=dot_bd hv hl (fun j=>tn_bd hv HG.out j) (n:=bn) (by omega)
 have h3:=prt_bd HF.out
 have h4:=prt_bd HG.out
 have h5:=mul_bd2 h4.1 h4.2 h1.1 h1.2 (C:=51840) (by omega)
 have h7:=mul_bd2 h3.1 h3.2 h2.1 h2.2 (C:=51840) (by omega)
 have hal : shdE x T lp ((j : Nat) : Int) ((k : Nat) : Int) = cmpE (prt (val (T.getD k [])) * dotE (val (x.lamp lp)) (tnE x (val (T.getD j []))) bn) (prt (val (T.getD j [])) * dotE (val (x.lamp lp)) (tnE x (val (T.getD k []))) bn):=by rw [shdE,hbn2];rfl
 show Calls _ _ #[.int .i64 ((j : Nat) : Int),.int .i64 ((k : Nat) : Int),_,_,_] _ _
 rw [hal]
 replace hj : j < T.length:=by omega
 replace hk : k < T.length:=by omega
 clear h hv hT hs hal hj0 hk0 hf hg f g
 refine calls_has 39 Try.func84 rfl Try.ntmps84 (Nat.le_of_ble_eq_true rfl) ?_
 intro fa F
 refine wp_seq_k fun K1 hK1=>?_
 refine wp_region_lit ?_
 refine F.vl (R_assign rfl (ev_c fa _)) ?_;clear F fa;intro fa F
 refine wpList_nil ?_
 refine hK1 _ _ ?_
 clear hK1
 refine wp_seq_k fun K2 hK2=>?_
 refine region_x (Ext [] w) none follows fun w1 hh eh=>?_
 have q8_:=q8
 replace q8:=keep_same hh q8
 have q9_:=q9
 replace q9:=keep_same hh q9
 have q4_:=q4
 replace q4:=keep_same hh q4
 have E_:=E
 have zEw1:=E.size
 replace E:=ext_same E eh
 have eT:=eh
 clear hh eh
 refine F.xr (i:=0) rfl (fun w' hS=>R_load rfl (F.at rfl) Try.underlying102 rfl ((cells_of_block (hS.keep q9_ (by simp)) 0).trans (get0))) (fun _=>eT) ?_;clear F fa;intro fa F
 refine F.x (i:=1) rfl (fun w'=>R_move rfl (F.at rfl)) (fun _=>eT) ?_;clear F fa;intro fa F
 obtain ⟨xb3,xo3,xa3,xr3⟩:=HS.out k (by omega)
 refine F.x (i:=2) rfl (fun w'=>R_ixSlice (sz:=4) rfl ((F.at rfl).trans (xa3 _ _)) (F.at rfl) Try.underlying102 (by kernel_rfl) (by omega) (by omega)) (fun _=>eT) ?_;clear F fa;intro fa F
 refine F.xr (i:=3) rfl (fun w' hS=>R_loadRow rfl (F.at rfl) Try.underlying83 rfl (by kernel_rfl) (xr3 _ (E_.nil hS))) (fun _=>eT) ?_;clear F fa;intro fa F
 refine F.xr (i:=5) rfl (fun w' hS=>R_loadBlk rfl (F.at rfl) Try.underlying80 rfl (by kernel_rfl) (hS.keep q8_ (by simp))) (fun _=>eT) ?_;clear F fa;intro fa F
 refine F.xr (i:=6) rfl (fun w' hS=>R_load rfl (F.at rfl) Try.underlying3 rfl ((cells_of_block (hS.keep q4_ (by simp)) 0).trans (get0))) (fun _=>eT) ?_;clear F fa;intro fa F
 refine F.xr (i:=7) rfl (fun w' hS=>R_loadBlk rfl (F.at rfl) Try.underlying80 rfl (by kernel_rfl) (hS.keep q8_ (by simp))) (fun _=>eT) ?_;clear F fa;intro fa F
 refine F.xr (i:=8) rfl (fun w' hS=>R_load rfl (F.at rfl) Try.underlying102 rfl ((cells_of_block (hS.keep q9_ (by simp)) 0).trans (get0))) (fun _=>eT) ?_;clear F fa;intro fa F
 refine F.x (i:=9) rfl (fun w'=>R_move rfl (F.at rfl)) (fun _=>eT) ?_;clear F fa;intro fa F
 obtain ⟨xb4,xo4,xa4,xr4⟩:=HS.out j (by omega)
 refine F.x (i:=10) rfl (fun w'=>R_ixSlice (sz:=4) rfl ((F.at rfl).trans (xa4 _ _)) (F.at rfl) Try.underlying102 (by kernel_rfl) (by omega) (by omega)) (fun _=>eT) ?_;clear F fa;intro fa F
 refine F.xr (i:=11) rfl (fun w' hS=>R_loadRow rfl (F.at rfl) Try.underlying83 rfl (by kernel_rfl) (xr4 _ (E_.nil hS))) (fun _=>eT) ?_;clear F fa;intro fa F
 refine F.xr (i:=15) rfl (fun w' hS=>R_load rfl (F.at rfl) Try.underlying102 rfl ((cells_of_block (hS.keep q9_ (by simp)) 0).trans (get0))) (fun _=>eT) ?_;clear F fa;intro fa F
 refine F.x (i:=16) rfl (fun w'=>R_move rfl (F.at rfl)) (fun _=>eT) ?_;clear F fa;intro fa F
 obtain ⟨xb5,xo5,xa5,xr5⟩:=HS.out j (by omega)
 refine F.x (i:=17) rfl (fun w'=>R_ixSlice (sz:=4) rfl ((F.at rfl).trans (xa5 _ _)) (F.at rfl) Try.underlying102 (by kernel_rfl) (by omega) (by omega)) (fun _=>eT) ?_;clear F fa;intro fa F
 refine F.xr (i:=18) rfl (fun w' hS=>R_loadRow rfl (F.at rfl) Try.underlying83 rfl (by kernel_rfl) (xr5 _ (E_.nil hS))) (fun _=>eT) ?_;clear F fa;intro fa F
 refine F.xr (i:=20) rfl (fun w' hS=>R_loadBlk rfl (F.at rfl) Try.underlying80 rfl (by kernel_rfl) (hS.keep q8_ (by simp))) (fun _=>eT) ?_;clear F fa;intro fa F
 refine F.xr (i:=21) rfl (fun w' hS=>R_load rfl (F.at rfl) Try.underlying3 rfl ((cells_of_block (hS.keep q4_ (by simp)) 0).trans (get0))) (fun _=>eT) ?_;clear F fa;intro fa F
 refine F.xr (i:=22) rfl (fun w' hS=>R_loadBlk rfl (F.at rfl) Try.underlying80 rfl (by kernel_rfl) (hS.keep q8_ (by simp))) (fun _=>eT) ?_;clear F fa;intro fa F
 refine F.xr (i:=23) rfl (fun w' hS=>R_load rfl (F.at rfl) Try.underlying102 rfl ((cells_of_block (hS.keep q9_ (by simp)) 0).trans (get0))) (fun _=>eT) ?_;clear F fa;intro fa F
 refine F.x (i:=24) rfl (fun w'=>R_move rfl (F.at rfl)) (fun _=>eT) ?_;clear F fa;intro fa F
 obtain ⟨xb6,xo6,xa6,xr6⟩:=HS.out k (by omega)
 refine F.x (i:=25) rfl (fun w'=>R_ixSlice (sz:=4) rfl ((F.at rfl).trans (xa6 _ _)) (F.at rfl) Try.underlying102 (by kernel_rfl) (by omega) (by omega)) (fun _=>eT) ?_;clear F fa;intro fa F
 refine F.xr (i:=26) rfl (fun w' hS=>R_loadRow rfl (F.at rfl) Try.underlying83 rfl (by kernel_rfl) (xr6 _ (E_.nil hS))) (fun _=>eT) ?_;clear F fa;intro fa F
 refine ax_only (i:=4) (by kernel_rfl) (op_call F rfl rfl (by decide) rfl (R_callV rfl rfl Try.call61 (mpS (F.at rfl) mp0)) (parts_any (val (T.getD k [])) HG.out.ok _) fun e w2 hR=>?_)
 obtain ⟨rfl,e9⟩:=hR
 refine ⟨_,rfl,?_⟩;clear F fa;intro fa F
 replace q8:=(e9).keep0 q8
 replace q9:=(e9).keep0 q9
 replace q4:=(e9).keep0 q4
 replace E:=ext_same E (e9)
 replace eT:=ext_same eT (e9)
 clear e9
 refine ⟨fun _=>eT,?_⟩
 refine ax_only (i:=12) (by kernel_rfl) (op_call F rfl rfl (by decide) rfl (R_callV rfl rfl Try.call87 (mpS (F.at rfl) (mpS (F.at rfl) mp0))) (sums_ok x HV.out bn hbn (val (T.getD j [])) HF.out _ (HX.out.ext E)) fun e w3 hR=>?_)
 obtain ⟨a20,rfl,oo,e9⟩:=hR
 refine ⟨_,rfl,?_⟩;clear F fa;intro fa F
 replace q8:=(e9).keep0 q8
 replace q9:=(e9).keep0 q9
 replace q4:=(e9).keep0 q4
 replace E:=ext_same E (e9)
 replace eT:=ext_same eT (e9)
 clear e9
 refine ⟨fun _=>eT,?_⟩
 have hrw:=rows_of_owns (xs:=sumL x (val (T.getD j [])) bn) (row:=intRow) (by rw [← ivs_flat,show (sumL x (val (T.getD j [])) bn).length = bn by simp [sumL]];exact oo) (fun _=>rfl)
 have hll : (sumL x (val (T.getD j [])) bn).length = bn:=by simp [sumL]
 have hwe:=weigh_ok x HV.out lp hl (sumL x (val (T.getD j [])) bn) (by rw [hll];omega) (fun n hn=>by have:=sumL_bd HV.out HF.out bn n hn;omega) a20 bn w3 (HX.out.ext E) (by rw [hll];exact hrw)
 rw [dot_sumL,hll] at hwe
 refine ax_only (i:=13) (by kernel_rfl) (op_call F rfl rfl (by decide) rfl (R_callV rfl rfl Try.call86 (mpS (F.at rfl) (mpS (F.at rfl) (mpS (F.at rfl) mp0)))) (hwe) fun e w4 hR=>?_)
 obtain ⟨rfl,e9⟩:=hR
 refine ⟨_,rfl,?_⟩;clear F fa;intro fa F
 replace q8:=(e9).keep0 q8
 replace q9:=(e9).keep0 q9
 replace q4:=(e9).keep0 q4
 replace E:=ext_same E (e9)
 replace eT:=ext_same eT (e9)
 clear e9
 refine ⟨fun _=>eT,?_⟩
 clear oo hrw hwe hll
 refine F.x (i:=14) rfl (fun w'=>R_mul rfl (F.at rfl) (F.at rfl) (by omega) (by omega)) (fun _=>eT) ?_;clear F fa;intro fa F
 refine ax_only (i:=19) (by kernel_rfl) (op_call F rfl rfl (by decide) rfl (R_callV rfl rfl Try.call61 (mpS (F.at rfl) mp0)) (parts_any (val (T.getD j [])) HF.out.ok _) fun e w5 hR=>?_)
 obtain ⟨rfl,e9⟩:=hR
 refine ⟨_,rfl,?_⟩;clear F fa;intro fa F
 replace q8:=(e9).keep0 q8
 replace q9:=(e9).keep0 q9
 replace q4:=(e9).keep0 q4
 replace E:=ext_same E (e9)
 replace eT:=ext_same eT (e9)
 clear e9
 refine ⟨fun _=>eT,?_⟩
 refine ax_only (i:=27) (by kernel_rfl) (op_call F rfl rfl (by decide) rfl (R_callV rfl rfl Try.call87 (mpS (F.at rfl) (mpS (F.at rfl) mp0))) (sums_ok x HV.out bn hbn (val (T.getD k [])) HG.out _ (HX.out.ext E)) fun e w6 hR=>?_)
 obtain ⟨a28,rfl,oo,e9⟩:=hR
 refine ⟨_,rfl,?_⟩;clear F fa;intro fa F
 replace q8:=(e9).keep0 q8
 replace q9:=(e9).keep0 q9
 replace q4:=(e9).keep0 q4
 replace E:=ext_same E (e9)
 replace eT:=ext_same eT (e9)
 clear e9
 refine ⟨fun _=>eT,?_⟩
 have hrw:=rows_of_owns (xs:=sumL x (val (T.getD k [])) bn) (row:=intRow) (by rw [← ivs_flat,show (sumL x (val (T.getD k [])) bn).length = bn by simp [sumL]];exact oo) (fun _=>rfl)
 have hll : (sumL x (val (T.getD k [])) bn).length = bn:=by simp [sumL]
 have hwe:=weigh_ok x HV.out lp hl (sumL x (val (T.getD k [])) bn) (by rw [hll];omega) (fun n hn=>by have:=sumL_bd HV.out HG.out bn n hn;omega) a28 bn w6 (HX.out.ext E) (by rw [hll];exact hrw)
 rw [dot_sumL,hll] at hwe
 refine ax_only (i:=28) (by kernel_rfl) (op_call F rfl rfl (by decide) rfl (R_callV rfl rfl Try.call86 (mpS (F.at rfl) (mpS (F.at rfl) (mpS (F.at rfl) mp0)))) (hwe) fun e w7 hR=>?_)
 obtain ⟨rfl,e9⟩:=hR
 refine ⟨_,rfl,?_⟩;clear F fa;intro fa F
 replace q8:=(e9).keep0 q8
 replace q9:=(e9).keep0 q9
 replace q4:=(e9).keep0 q4
 replace E:=ext_same E (e9)
 replace eT:=ext_same eT (e9)
 clear e9
 refine ⟨fun _=>eT,?_⟩
 clear oo hrw hwe hll
 refine F.x (i:=29) rfl (fun w'=>R_mul rfl (F.at rfl) (F.at rfl) (by omega) (by omega)) (fun _=>eT) ?_;clear F fa;intro fa F
 refine ax_only (i:=30) (by kernel_rfl) (op_call F rfl rfl (by decide) rfl (R_callV rfl rfl Try.call85 (mpS (F.at rfl) (mpS (F.at rfl) mp0))) (cmp_any _ _ _) fun e w8 hR=>?_)
 obtain ⟨rfl,e9⟩:=hR
 refine ⟨_,rfl,?_⟩;clear F fa;intro fa F
 replace q8:=(e9).keep0 q8
 replace q9:=(e9).keep0 q9
 replace q4:=(e9).keep0 q4
 replace E:=ext_same E (e9)
 replace eT:=ext_same eT (e9)
 clear e9
 refine ⟨fun _=>eT,?_⟩
 refine F.x (i:=31) rfl (fun w'=>R_assign rfl (F.at rfl)) (fun _=>eT) ?_;clear F fa;intro fa F
 refine ax_done (by kernel_rfl) ?_ _
 clear eT q8_ q9_ q4_ E_
 refine hK2 _ _ ?_
 clear hK2
 refine wp_ret ?_
 (try simp only [Exit.inBlock,Exit.then,reduceIte])
 refine rt_v F (rs_1 F rfl rfl) ?_
 exact ⟨rfl,E⟩
def nums (n : Nat) : List Int:=(List.range n).map fun i=>((i : Nat) : Int)
theorem nums_len (n : Nat) : (nums n).length = n:=by simp [nums]
theorem nums_succ (n : Nat) : nums (n + 1) = nums n ++ [((n : Nat) : Int)]:=by simp [nums,List.range_succ]
theorem nums_mem {n : Nat} : ∀ m ∈ nums n,0 ≤ m ∧ m < n:=by
 intro m hm
 simp only [nums,List.mem_map,List.mem_range] at hm
 obtain ⟨i,hi,rfl⟩:=hm
 omega
def shaR (x : Vm) (lp : Nat) (T : List (List Int)) : List Int:=srtL (shdE x T lp) (nums T.length)
theorem srtL_len (c : Int → Int → Int) (l : List Int) : (srtL c l).length = l.length:=by rw [srtL,srt_len]
set_option maxRecDepth 100000 in
set_option maxHeartbeats 2000000 in
theorem xShades_ok (x : Vm) (hv : VOk x) (lp : Nat) (hlp : lp < x.L.length) (S : List (Value × List Int)) (hs : ∀ p ∈ S,RcpOk x p.2) (h6 : S.length ≤ 6) (a : Option Addr) (c : Nat) (w : World) (h : x.At w) (hl : LolAt w a S) :
  Calls Try.prog 30 #[.agg #[.int .i64 x.B,.slice x.da x.D.length x.dc,.slice x.la x.L.length x.lc,.int .i64 x.tol],.int .i64 ((lp : Nat) : Int),.slice a S.length c] w (IntsPost (shaR x lp (S.map (·.2)),0) w):=by
 have E : Ext [] w w:=Ext.refl _ _
 have HX:=Lib.hid h
 have HV:=Lib.hid hv
 have HL:=Lib.hid hl
 have HS:=Lib.hid hs
 obtain ⟨T,hT⟩ : ∃ T,T = S.map (·.2):=⟨_,rfl⟩
 have hTl : T.length = S.length:=by rw [hT,List.length_map]
 have HT : RowKit.Hid (∀ t ∈ T,TubS (val t)):=Lib.hid (fun t ht=>by
  rw [hT] at ht
  obtain ⟨p,hp,rfl⟩:=List.mem_map.1 ht
  exact (hs p hp).tub)
 clear h hv hl hs
 refine calls_hasM 33 Try.func30 rfl Try.ntmps30 (Nat.le_of_ble_eq_true rfl) ?_
 intro fa F
 refine wp_seq_k fun K1 hK1=>?_
 refine wp_region_lit ?_
 refine sq_new F rfl (by decide) rfl (R_box rfl (F.at rfl)) ?_;clear F fa;intro fa w1 F hw
 obtain ⟨n3,hn⟩ : ∃ n,n = w.heap.size:=⟨_,rfl⟩
 rw [← hn] at F
 have s3 : w.heap.size ≤ n3:=Nat.le_of_eq hn.symm
 have l3_E : w.heap.size ≤ n3:=by rw [hn];exact E.size
 replace E:=ext_alloc E hw
 have q3:=new_row hw hn
 clear hw hn
 refine sq_new F rfl (by decide) rfl (R_box rfl (F.at rfl)) ?_;clear F fa;intro fa w2 F hw
 obtain ⟨n4,hn⟩ : ∃ n,n = w1.heap.size:=⟨_,rfl⟩
 rw [← hn] at F
 have s4 : w1.heap.size ≤ n4:=Nat.le_of_eq hn.symm
 have l4_E : w.heap.size ≤ n4:=by rw [hn];exact E.size
 have m4_3 : n3 < n4:=by rw [hn];exact blk_lt q3
 replace q3:=keep_alloc hw q3
 replace E:=ext_alloc E hw
 have q4:=new_one hw rfl hn
 clear hw hn
 refine F.vl (R_assign rfl (ev_c fa _)) ?_;clear F fa;intro fa F
 refine sq_new F rfl (by decide) rfl (R_alloc rfl Try.zeroValue35) ?_;clear F fa;intro fa w3 F hw
 obtain ⟨n7,hn⟩ : ∃ n,n = w2.heap.size:=⟨_,rfl⟩
 rw [← hn] at F
 have s7 : w2.heap.size ≤ n7:=Nat.le_of_eq hn.symm
 have l7_E : w.heap.size ≤ n7:=by rw [hn];exact E.size
 have m7_3 : n3 < n7:=by rw [hn];exact blk_lt q3
 have m7_4 : n4 < n7:=by rw [hn];exact blk_lt q4
 replace q3:=keep_alloc hw q3
 replace q4:=keep_alloc hw q4
 replace E:=ext_alloc E hw
 have q7:=new_one hw rfl hn
 clear hw hn
 refine wpList_nil ?_
 refine hK1 _ _ ?_
 clear hK1
 refine wp_seq_k fun K2 hK2=>?_
 refine wp_region_lit ?_
 refine sq_defer F rfl rfl (R_defer rfl rfl (mpS (F.at rfl) mp0)) ?_;clear F fa;intro fa F
 refine wpList_nil ?_
 refine hK2 _ _ ?_
 clear hK2
 refine wp_seq_k fun K3 hK3=>?_
 refine wp_region_lit ?_
 refine F.vl (R_loadBlk rfl (F.at rfl) Try.underlying24 rfl (by kernel_rfl) q3) ?_;clear F fa;intro fa F
 refine sq_call F rfl (by decide) rfl (R_callV rfl rfl Try.call54 (mpS (F.at rfl) mp0)) (begin_ok x HV.out _ (HX.out.ext E)) fun e w4 hR=>?_
 obtain ⟨rfl,e9⟩:=hR
 refine ⟨_,rfl,?_⟩;clear F fa;intro fa F
 replace q3:=(e9).keep0 q3
 replace q4:=(e9).keep0 q4
 replace q7:=(e9).keep0 q7
 replace E:=ext_same E (e9)
 clear e9
 refine sq_new F rfl (by decide) rfl (R_alloc rfl Try.zeroValue80) ?_;clear F fa;intro fa w5 F hw
 obtain ⟨n8,hn⟩ : ∃ n,n = w4.heap.size:=⟨_,rfl⟩
 rw [← hn] at F
 have s8 : w4.heap.size ≤ n8:=Nat.le_of_eq hn.symm
 have l8_E : w.heap.size ≤ n8:=by rw [hn];exact E.size
 have m8_3 : n3 < n8:=by rw [hn];exact blk_lt q3
 have m8_4 : n4 < n8:=by rw [hn];exact blk_lt q4
 have m8_7 : n7 < n8:=by rw [hn];exact blk_lt q7
 replace q3:=keep_alloc hw q3
 replace q4:=keep_alloc hw q4
 replace q7:=keep_alloc hw q7
 replace E:=ext_alloc E hw
 have q8:=new_row hw hn
 clear hw hn
 refine sq_to rfl rfl (R_storeRow rfl (F.at rfl) (F.at rfl) (by kernel_rfl) (by first | (simp [Value.oneCell'];done) | (simp [Value.oneCell',id];done)) q8 rfl) ?_;intro w6 hw
 replace q3:=keep_cells hw q3 (by omega)
 replace q4:=keep_cells hw q4 (by omega)
 replace q7:=keep_cells hw q7 (by omega)
 replace q8:=put_row hw q8 rfl
 replace E:=ext_cells E hw (fun h=>by first | exact absurd h (by omega) | simp)
 clear hw
 refine wpList_nil ?_
 refine hK3 _ _ ?_
 clear hK3
 refine wp_seq_k fun K4 hK4=>?_
 refine wp_region_lit ?_
 refine F.vl (R_loadBlk rfl (F.at rfl) Try.underlying80 rfl (by kernel_rfl) q8) ?_;clear F fa;intro fa F
 refine F.vl (R_load rfl (F.at rfl) Try.underlying3 rfl ((cells_of_block q4 0).trans (get0))) ?_;clear F fa;intro fa F
 refine sq_call F rfl (by decide) rfl (R_callV rfl rfl Try.call82 (mpS (F.at rfl) (mpS (F.at rfl) mp0))) (lamp_ok x HV.out ((lp : Nat) : Int) (by omega) (by omega) _) fun e w7 hR=>?_
 obtain ⟨rfl,e9⟩:=hR
 refine ⟨_,rfl,?_⟩;clear F fa;intro fa F
 replace q3:=(e9).keep0 q3
 replace q4:=(e9).keep0 q4
 replace q7:=(e9).keep0 q7
 replace q8:=(e9).keep0 q8
 replace E:=ext_same E (e9)
 clear e9
 refine wpList_nil ?_
 refine hK4 _ _ ?_
 clear hK4
 refine wp_seq_k fun K5 hK5=>?_
 refine wp_region_lit ?_
 refine F.vl (R_loadBlk rfl (F.at rfl) Try.underlying80 rfl (by kernel_rfl) q8) ?_;clear F fa;intro fa F
 refine F.mv ?_;clear F fa;intro fa F
 refine sq_call F rfl (by decide) rfl (R_callV rfl rfl Try.call71 (mpS (F.at rfl) (mpS (F.at rfl) mp0))) (stuffs_ok x HV.out S HS.out h6 a c _ (HL.out.ext E)) fun e w8 hR=>?_
 obtain ⟨ma,mc,rfl,om,e9⟩:=hR
 refine ⟨_,rfl,?_⟩;clear F fa;intro fa F
 replace q3:=(e9).keep0 q3
 replace q4:=(e9).keep0 q4
 replace q7:=(e9).keep0 q7
 replace q8:=(e9).keep0 q8
 replace E:=ext_same E (e9)
 clear e9
 rw [← hT,← hTl] at om
 rw [← hTl] at F
 have hrm:=Lib.hid (rows_of_owns (row:=fun t : List Int=>tubR (val t)) om (fun _=>rfl))
 clear om
 obtain ⟨wM,hwM⟩ : ∃ wM,wM = w8:=⟨_,rfl⟩
 have EM : Ext [] wM w8:=by rw [hwM];exact Ext.refl _ _
 rw [← hwM] at hrm
 refine sq_new F rfl (by decide) rfl (R_alloc rfl Try.zeroValue102) ?_;clear F fa;intro fa w9 F hw
 obtain ⟨n9,hn⟩ : ∃ n,n = w8.heap.size:=⟨_,rfl⟩
 rw [← hn] at F
 have s9 : w8.heap.size ≤ n9:=Nat.le_of_eq hn.symm
 have l9_E : w.heap.size ≤ n9:=by rw [hn];exact E.size
 have l9_EM : wM.heap.size ≤ n9:=by rw [hn];exact EM.size
 have m9_3 : n3 < n9:=by rw [hn];exact blk_lt q3
 have m9_4 : n4 < n9:=by rw [hn];exact blk_lt q4
 have m9_7 : n7 < n9:=by rw [hn];exact blk_lt q7
 have m9_8 : n8 < n9:=by rw [hn];exact blk_lt q8
 replace q3:=keep_alloc hw q3
 replace q4:=keep_alloc hw q4
 replace q7:=keep_alloc hw q7
 replace q8:=keep_alloc hw q8
 replace E:=ext_alloc E hw
 replace EM:=ext_alloc EM hw
 have q9:=new_one hw rfl hn
 clear hw hn
 refine sq_to rfl rfl (R_store rfl (F.at rfl) (F.at rfl) rfl (by kernel_rfl) ((cells_of_block q9 0).trans (get0)) (free_of_block q9 0)) ?_;intro w10 hw
 replace q3:=keep_cell hw q3 (by omega)
 replace q4:=keep_cell hw q4 (by omega)
 replace q7:=keep_cell hw q7 (by omega)
 replace q8:=keep_cell hw q8 (by omega)
 replace q9:=put_cell hw q9 (by simp only [List.setIfInBounds_toArray,lsQ,lzQ];exact rfl)
 replace E:=ext_cell E hw (fun h=>by first | exact absurd h (by omega) | simp)
 replace EM:=ext_cell EM hw (fun h=>by first | exact absurd h (by omega) | simp)
 clear hw
 refine wpList_nil ?_
 refine hK5 _ _ ?_
 clear hK5
 refine wp_seq_k fun K6 hK6=>?_
 refine wp_seq_k fun K7 hK7=>?_
 obtain ⟨wL,hwL⟩ : ∃ wL,wL = w10:=⟨_,rfl⟩
 have EL : Ext [] wL w10:=by rw [hwL];exact Ext.refl _ _
 have b4:=blk_lt q4
 have b7:=blk_lt q7
 have b8:=blk_lt q8
 have b9:=blk_lt q9
 rw [← hwL] at b4 b7 b8 b9
 have hww:=E.size
 rw [← hwL] at hww
 have hwm:=EM.size
 rw [← hwL] at hwm
 have oo : w10.ownsRow wL.heap.size 3 1 (.slice none 0 0) 0 (ivs (nums 0)):=World.ownsRow_nil _ _ _ _
 refine wp_region_lit ?_
 refine F.vl (R_load rfl (F.at rfl) Try.underlying102 rfl ((cells_of_block q9 0).trans (get0))) ?_;clear F fa;intro fa F
 refine F.vl (R_len rfl rfl (F.at rfl) Try.underlying102) ?_;clear F fa;intro fa F
 refine F.vl (R_move rfl (ev_c fa _)) ?_;clear F fa;intro fa F
 refine wpList_nil ?_
 refine hK7 _ _ ?_
 clear hK7
 refine wp_block ?_
 have F0:=F.sub (.c 4 rfl (.c 7 rfl (.c 8 rfl (.c 9 rfl (.c 20 rfl .n)))))
 refine lp_for F0 (T.length) (fun i Lv W=>∃ va : Option Addr,∃ vc : Nat,Lv = [(6,.slice va i vc),(21,.int .i64 ((i : Nat) : Int))] ∧ Ext [] w W ∧ Ext [] wM W ∧ Ext [] wL W ∧ W.heap[n3]? = some (.cells #[.int .i64 x.B,.slice x.da x.D.length x.dc,.slice x.la x.L.length x.lc,.int .i64 x.tol] 24 (0,0)) ∧ W.heap[n4]? = some (.cells #[.int .i64 ((lp : Nat) : Int)] 3 (0,0)) ∧ W.heap[n7]? = some (.cells #[.int .i64 0] 35 (0,0)) ∧ W.heap[n8]? = some (.cells #[.int .i64 x.B,.slice x.da x.D.length x.dc,.slice x.la x.L.length x.lc,.int .i64 x.tol] 80 (0,0)) ∧ W.heap[n9]? = some (.cells #[.slice ma T.length mc] 102 (0,0)) ∧ W.ownsRow wL.heap.size 3 1 (.slice va i vc) i (ivs (nums i))) ⟨_,⟨none,0,rfl,E,EM,EL,q3,q4,q7,q8,q9,oo⟩,F.sub (.c 6 rfl (.c 21 rfl (.c 4 rfl (.c 7 rfl (.c 8 rfl (.c 9 rfl (.c 20 rfl .n)))))))⟩ ?_
 clear F F0
 clear E EM EL q3 q4 q7 q8 q9
 clear oo
 rintro i _ fa w11 hi1 ⟨va,vc,rfl,E,EM,EL,q3,q4,q7,q8,q9,oo⟩ F
 refine wp_seq_k fun K8 hK8=>?_
 refine wp_region_lit ?_
 refine F.vl (R_lss rfl (F.at rfl) (F.at rfl)) ?_;clear F fa;intro fa F
 refine wpList_nil ?_
 refine hK8 _ _ ?_
 clear hK8
 refine wp_seq_k fun K9 hK9=>?_
 refine cd_if F rfl (fun hc22=>?_) (fun hc22=>?_)
 ·skip
  refine wp_skip ?_
  refine hK9 _ _ ?_
  clear hK9
  refine wp_seq_k fun K10 hK10=>?_
  refine wp_block ?_
  refine wp_seq_k fun K11 hK11=>?_
  refine wp_region_lit ?_
  refine F.mv ?_;clear F fa;intro fa F
  refine F.as ?_;clear F fa;intro fa F
  refine wpList_nil ?_
  refine hK11 _ _ ?_
  clear hK11
  refine wp_region_lit ?_
  refine F.mv ?_;clear F fa;intro fa F
  refine F.mv ?_;clear F fa;intro fa F
  refine sq_new F rfl (by decide) rfl (R_buildSliceV rfl (prS (F.at rfl) pr0) Try.underlying25 (size:=1) (by kernel_rfl) (by decide) (by decide) Try.zeroValue3 (cells:=#[.int .i64 ((i : Nat) : Int)]) (by kernel_rfl)) ?_;clear F fa;intro fa w12 F hw
  obtain ⟨n26,hn⟩ : ∃ n,n = w11.heap.size:=⟨_,rfl⟩
  rw [← hn] at F
  have s26 : w11.heap.size ≤ n26:=Nat.le_of_eq hn.symm
  have l26_E : w.heap.size ≤ n26:=by rw [hn];exact E.size
  have l26_EM : wM.heap.size ≤ n26:=by rw [hn];exact EM.size
  have l26_EL : wL.heap.size ≤ n26:=by rw [hn];exact EL.size
  have m26_3 : n3 < n26:=by rw [hn];exact blk_lt q3
  have m26_4 : n4 < n26:=by rw [hn];exact blk_lt q4
  have m26_7 : n7 < n26:=by rw [hn];exact blk_lt q7
  have m26_8 : n8 < n26:=by rw [hn];exact blk_lt q8
  have m26_9 : n9 < n26:=by rw [hn];exact blk_lt q9
  have o26_oo:=Lib.hid (own_ne_new oo hn)
  replace oo:=owns_alloc hw oo
  replace q3:=keep_alloc hw q3
  replace q4:=keep_alloc hw q4
  replace q7:=keep_alloc hw q7
  replace q8:=keep_alloc hw q8
  replace q9:=keep_alloc hw q9
  replace E:=ext_alloc E hw
  replace EM:=ext_alloc EM hw
  replace EL:=ext_alloc EL hw
  have q26:=new_block hw hn
  clear hw hn
  have hEs:=EL.size
  refine sq_some F rfl (by decide) rfl (append_run rfl (wL.heap.size) (e:=3) (size:=1) (bytes:=8) Try.underlying25 (by kernel_rfl) (by decide) (F.at rfl) oo (F.at rfl) q26 rfl (by simp [Value.oneCell']) (by omega) (by omega) (by omega)) ?_;clear F fa;rintro fa v' w13 F ⟨hown',hg⟩
  obtain ⟨va27,vc27,rfl⟩:=owns_slice hown'
  replace q3:=keep_type oo hg q3 (by decide)
  replace q4:=keep_append oo hg q4 (by omega)
  replace q7:=keep_type oo hg q7 (by decide)
  replace q8:=keep_type oo hg q8 (by decide)
  replace q9:=keep_type oo hg q9 (by decide)
  replace E:=ext_appendX E oo hg (by omega)
  replace EM:=ext_appendX EM oo hg (by omega)
  replace EL:=ext_appendX EL oo hg (by omega)
  replace oo:=hown'
  clear hg
  rw [show ivs (nums i) ++ [.int .i64 ((i : Nat) : Int)] = ivs (nums (i + 1)) by rw [nums_succ];simp [ivs]] at oo
  refine F.as ?_;clear F fa;intro fa F
  refine wpList_nil ?_
  refine hK10 _ _ ?_
  clear hK10
  refine wp_region_lit ?_
  refine F.vl (R_add rfl (F.at rfl) (ev_c fa _) (by omega) (by omega)) ?_;clear F fa;intro fa F
  refine F.mv ?_;clear F fa;intro fa F
  refine wpList_nil ?_
  show _ ∧ _
  exact ⟨by omega,_,⟨_,_,rfl,E,EM,EL,q3,q4,q7,q8,q9,oo⟩,F.sub (.c 6 rfl (.c 21 rfl (.c 4 rfl (.c 7 rfl (.c 8 rfl (.c 9 rfl (.c 20 rfl .n)))))))⟩
 ·skip
  refine wp_exit ?_
  rw [show i = T.length by omega] at oo F
  refine hK6 _ _ ?_
  clear hK6
  refine wp_seq_k fun K12 hK12=>?_
  obtain ⟨r,hrr,hrd⟩:=one_row (.slice va T.length vc) w11.heap.size
  have hrb : wL.heap.size ≤ r:=by rcases hrd with h | h;(· exact (oo.lt r h).1);(· rw [h];exact EL.size)
  refine wp_region_lit ?_
  refine F.mv ?_;clear F fa;intro fa F
  refine F.vl (R_makeFunc rfl (mapsN mp0) (mapsN (mpS (F.at rfl) (mpS (F.at rfl) (mpS (F.at rfl) mp0))))) ?_;clear F fa;intro fa F
  have hEM : Ext [] wM w11:=EM
  refine sq_call F rfl (by decide) rfl (R_callV rfl rfl Try.call83 (mpS (F.at rfl) (mpS (F.at rfl) mp0))) (sortF_any 84 #[.pointer (some ⟨n9,0,none⟩),.pointer (some ⟨n8,0,none⟩),.pointer (some ⟨n4,0,none⟩)] (shdE x T lp) (fun m=>0 ≤ m ∧ m < T.length) wL.heap.size r T.length va vc (nums T.length) _ (nums_len _) (by omega) nums_mem oo hrr Try.call84 (fun W e m k hm hk=>shades1_ok x HV.out T HT.out ma mc n9 n8 n4 lp m k hm.1 hm.2 hk.1 hk.2 hlp W (HX.out.extX ((E.mono (Y:=[r]) (by simp)).trans e) (by simp;omega)) (e.keep q8 (by simp;omega)) (e.keep q9 (by simp;omega)) (e.keep q4 (by simp;omega)) (slAt_of_rows (row:=fun t : List Int=>tubR (val t)) (hrm.out.ext ((hEM.mono (Y:=[r]) (by simp)).trans e) (by simp;omega)) []) (by omega))) fun e w14 hR=>?_
  obtain ⟨rfl,oo2,e9⟩:=hR
  refine ⟨_,rfl,?_⟩;clear F fa;intro fa F
  replace q3:=(e9).keep q3 (by simp;omega)
  replace q4:=(e9).keep q4 (by simp;omega)
  replace q7:=(e9).keep q7 (by simp;omega)
  replace q8:=(e9).keep q8 (by simp;omega)
  replace q9:=(e9).keep q9 (by simp;omega)
  replace E:=E.trans' e9 (fun i hi hl=>by simp only [List.mem_cons,List.not_mem_nil,or_false] at hi ⊢;omega)
  replace EM:=EM.trans' e9 (fun i hi hl=>by simp only [List.mem_cons,List.not_mem_nil,or_false] at hi ⊢;omega)
  replace EL:=EL.trans' e9 (fun i hi hl=>by simp only [List.mem_cons,List.not_mem_nil,or_false] at hi ⊢;omega)
  replace oo:=oo2
  clear oo2 e9
  refine wpList_nil ?_
  refine hK12 _ _ ?_
  clear hK12
  refine wp_seq_k fun K13 hK13=>?_
  refine wp_region_lit ?_
  refine F.mv ?_;clear F fa;intro fa F
  refine F.as ?_;clear F fa;intro fa F
  refine sq_to rfl rfl (R_store rfl (F.at rfl) (ev_c fa _) rfl (by kernel_rfl) ((cells_of_block q7 0).trans (get0)) (free_of_block q7 0)) ?_;intro w15 hw
  replace oo:=owns_cellX hw oo (own_ne_type oo q7 (by decide))
  replace q3:=keep_cell hw q3 (by omega)
  replace q4:=keep_cell hw q4 (by omega)
  replace q7:=put_cell hw q7 (by simp only [List.setIfInBounds_toArray,lsQ,lzQ];exact rfl)
  replace q8:=keep_cell hw q8 (by omega)
  replace q9:=keep_cell hw q9 (by omega)
  replace E:=ext_cell E hw (fun h=>by first | exact absurd h (by omega) | simp)
  clear hw
  refine wpList_nil ?_
  refine hK13 _ _ ?_
  clear hK13
  refine wp_ret ?_
  (try simp only [Exit.inBlock,Exit.then,reduceIte])
  refine rtM_v F ?_
  refine lv_caught ?_
  refine lv_nil (rs_tc F rfl rfl rfl Try.underlying35 rfl q7) ?_
  rw [← hT,show shaR x lp T = srtL (shdE x T lp) (nums T.length) from rfl]
  have hsl : (srtL (shdE x T lp) (nums T.length)).length = T.length:=by rw [srtL_len,nums_len]
  refine ⟨va,vc,?_,?_,E⟩
  ·simp only [hsl]
  ·simp only [hsl];exact owns_lower oo hww
end Go.Proofs.Ytdjeecgddbjbeaa
