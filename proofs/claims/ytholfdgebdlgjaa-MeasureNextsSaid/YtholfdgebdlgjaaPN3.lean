/- Parts of a proof: Nar, Loo, FwLaw, FwClose, LooLaw, Sol, Tru. No conditions. -/
import Derived.Deep.Cut
import Derived.Defers
import Derived.LoopTactic
import Derived.Recover
import Derived.ScopeJumps
import Derived.Test.YtholfdgebdlgjaaPN1
set_option linter.unusedVariables false
set_option linter.unusedSimpArgs false
namespace Go.Proofs.Ytholfdgebdlgjaa
open Go.RowKit
noncomputable def narrowRest : Code:=match Try.f132.body with
 | some (.seq _ (.scope (.seq _ c)))=>c
 | _=>.skip
theorem iTo_lt {m : Nat → Nat → Int} {k : Nat} : ∀ {i : Nat},iTo m k i = none → ∀ {i' : Nat},i ≤ i' → iTo m k i' = none:=by
 intro i h i' hi
 induction hi with
 | refl=>exact h
 | step _ ih=>simp [iTo,ih]
theorem kTo_lt {m : Nat → Nat → Int} : ∀ {k : Nat},kTo m k = none → ∀ {k' : Nat},k ≤ k' → kTo m k' = none:=by
 intro k h k' hk
 induction hk with
 | refl=>exact h
 | step _ ih=>simp [kTo,ih]
set_option maxRecDepth 100000 in
set_option maxHeartbeats 1000000 in
theorem narrow_rest (Q : Exit → Act → World → Prop) (m : Nat → Nat → Int) (hs : safeM m) (Bb Br : Nat) (w : World) (hb : MatAt w Bb 105 m) (z : Array Value) (hz : z.size = 169) (hr : w.heap[Br]? = some (.cells z 105 (0,0))) (hne : Bb ≠ Br)
  (x0 x3 x4 x5 x6 x7 x8 x9 x10 x11 x12 x13 x14 x15 x16 x17 x18 x19 x20 x21 x22 x23 x24 x25 x26 x27 x28 x29 x30 x31 x32 x33 x34 x35 x36 x37 x38 x39 x40 x41 x42 x43 x44 x45 x46 x47 x48 x49 x50 x51 x52 : Value)
  (hpanic : Hid (kTo m 13 = none → ∀ a w',a.defers = [] → Ext [Bb] w w' → Q (.panic [{ v:=.iface 163 (.agg #[]),recovered:=false }]) a w'))
  (hjump : Hid (∀ m',kTo m 13 = some m' → eqM m' m = false → ∀ w',MatAt w' Bb 105 m' → Ext [Bb] w w' → ∀ (x0 x3 x4 x5 x6 x7 x8 x9 x10 x11 x12 x13 x14 x15 x16 x17 x18 x19 x20 x21 x22 x23 x24 x25 x26 x27 x28 x29 x30 x31 x32 x33 x34 x35 x36 x37 x38 x39 x40 x41 x42 x43 x44 x45 x46 x47 x48 x49 x50 x51 x52 : Value),Q (.goto 0) ⟨(x0 :: .pointer (some ⟨Bb,0,none⟩) :: .pointer (some ⟨Br,0,none⟩) :: x3 :: x4 :: x5 :: x6 :: x7 :: x8 :: x9 :: x10 :: x11 :: x12 :: x13 :: x14 :: x15 :: x16 :: x17 :: x18 :: x19 :: x20 :: x21 :: x22 :: x23 :: x24 :: x25 :: x26 :: x27 :: x28 :: x29 :: x30 :: x31 :: x32 :: x33 :: x34 :: x35 :: x36 :: x37 :: x38 :: x39 :: x40 :: x41 :: x42 :: x43 :: x44 :: x45 :: x46 :: x47 :: x48 :: x49 :: x50 :: x51 :: x52 :: []).toArray,[]⟩ w'))
  (hret : Hid (∀ m',kTo m 13 = some m' → eqM m' m = true → ∀ a w',a.defers = [] → a.tmps.getD 2 undef = .pointer (some ⟨Br,0,none⟩) → w'.heap[Br]? = some (.cells (matCells m') 105 (0,0)) → Ext [Bb,Br] w w' → Q .ret a w')) :
  narrowRest.wp Try.prog Q ⟨(x0 :: .pointer (some ⟨Bb,0,none⟩) :: .pointer (some ⟨Br,0,none⟩) :: x3 :: x4 :: x5 :: x6 :: x7 :: x8 :: x9 :: x10 :: x11 :: x12 :: x13 :: x14 :: x15 :: x16 :: x17 :: x18 :: x19 :: x20 :: x21 :: x22 :: x23 :: x24 :: x25 :: x26 :: x27 :: x28 :: x29 :: x30 :: x31 :: x32 :: x33 :: x34 :: x35 :: x36 :: x37 :: x38 :: x39 :: x40 :: x41 :: x42 :: x43 :: x44 :: x45 :: x46 :: x47 :: x48 :: x49 :: x50 :: x51 :: x52 :: []).toArray,[]⟩ w:=by
 change Code.wp _ (Code.seq _ _) _ _ _
 refine wp_seq_k fun K1 hK1=>?_
 refine wp_region_lit ?_
 refine seq_val rfl rfl (R_loadRow (cs:=matList m) rfl rfl Try.underlying105 rfl (matInfo m) hb.range) (by simp only [ls,lz];exact rfl) ?_
 refine seq_new rfl rfl (R_alloc rfl Try.zeroValue105) (by simp only [ls,lz];exact rfl) fun W1 hW1=>?_
 have hb1 : MatAt W1 Bb 105 m:=hW1 ▸ hb.alloc _
 have q1 : W1.heap[w.heap.size]? = some (.cells Try.zeroCells105 105 (0,0)):=hW1 ▸ blk_new rfl
 have E1 : Ext [Bb] w W1:=hW1 ▸ (Ext.refl _ _).alloc _
 refine seq_to rfl rfl (R_storeRow (cs:=(matList m).toArray) rfl rfl rfl (by rw [List.size_toArray];exact matInfo m) (all_oneCell_toArray (matList_one m)) q1 (by rw [Try.zeroCells105_size,List.size_toArray,matList_length])) fun W2 hW2=>?_
 refine wpList_nil ?_
 have q2 : W2.heap[w.heap.size]? = some (.cells (matCells m) 105 (0,0)):=by
  rw [hW2,stored_block q1 (by rw [Try.zeroCells105_size,List.size_toArray,matList_length]),matList_toArray]
 have hb2 : MatAt W2 Bb 105 m:=⟨by rw [hW2,setCells_other _ _ _ _ _ (by have:=hb.lt;omega)];exact hb1.blk⟩
 have E2 : Ext [Bb] w W2:=by rw [hW2];exact E1.setCells (fun h=>absurd h (by omega)) _ _
 clear hW2 hW1 q1 hb1 E1
 refine hK1 _ _ ?_
 clear hK1
 generalize hBo : w.heap.size = Bo at q2
 have HBo:=Lib.hid hBo;clear hBo
 have hnb : Bb ≠ Bo:=by have:=hb.lt;have:=HBo.out;omega
 go_wp2_with fail
 go_loopw [8] (fun kv wr=>∃ (k : Nat) (mk : Nat → Nat → Int),k ≤ 13 ∧ kv = .int .i64 k ∧ kTo m k = some mk ∧ MatAt wr Bb 105 mk ∧ wr.heap[Bo]? = some (.cells (matCells m) 105 (0,0)) ∧ Ext [Bb] w wr) (fun kv _=>13 - (intOf kv).toNat)
 case atStart=>exact ⟨0,m,Nat.zero_le _,rfl,rfl,hb2,q2,E2⟩
 case round =>
  obtain ⟨k,mk,hk,rfl,hmk,hbk,qk,Ek⟩:=hrel
  have Hmk:=Lib.hid hmk;clear hmk
  clear hb2 q2 E2
  have Hqk:=Lib.hid qk;clear qk
  by_cases hlt : k < 13
  ·go_wp2_with fail
   obtain ⟨wk,rfl⟩ : ∃ wk : World,wk = wr:=⟨_,rfl⟩
   go_loopw [11] (fun iv wr=>∃ (i : Nat) (mi : Nat → Nat → Int),i ≤ 13 ∧ iv = .int .i64 i ∧ iTo mk k i = some mi ∧ MatAt wr Bb 105 mi ∧ wr.heap[Bo]? = some (.cells (matCells m) 105 (0,0)) ∧ Ext [Bb] w wr) (fun iv _=>13 - (intOf iv).toNat)
   case atStart=>exact ⟨0,mk,Nat.zero_le _,rfl,rfl,hbk,Hqk.out,Ek⟩
   case round =>
    obtain ⟨i,mi,hi,rfl,hmi,hbi,qi,Ei⟩:=hrel
    have Hmi:=Lib.hid hmi;clear hmi
    have Hqi:=Lib.hid qi;clear qi
    by_cases hlti : i < 13
    ·go_wp2_with fail
     obtain ⟨wi,rfl⟩ : ∃ wi : World,wi = wr:=⟨_,rfl⟩
     go_loopw [14] (fun jv wr=>∃ (j : Nat),j ≤ 13 ∧ jv = .int .i64 j ∧ MatAt wr Bb 105 (rowTo mi k i j) ∧ wr.heap[Bo]? = some (.cells (matCells m) 105 (0,0)) ∧ Ext [Bb] w wr) (fun jv _=>13 - (intOf jv).toNat)
     case atStart=>exact ⟨0,Nat.zero_le _,rfl,hbi,Hqi.out,Ei⟩
     case round =>
      obtain ⟨j,hj,rfl,hbj,qj,Ej⟩:=hrel
      have Hqj:=Lib.hid qj;clear qj
      by_cases hltj : j < 13
      ·have hsf:=hs k i j hlt hlti hltj mk Hmk.out mi Hmi.out
       have Hsf:=Lib.hid hsf;clear hsf
       go_wp2_with fail
       refine wp_region_st 21 follows (by kernel_rfl) fun W3 hW3 eW3=>?_
       replace hbj:=hbj.same hW3
       replace Hqj:=Lib.hid (keep_same hW3 Hqj.out)
       replace Ej:=Ej.nil eW3
       clear hW3 eW3
       refine still_val rfl rfl (R_move (v:=.int .i64 _) rfl rfl) (by simp only [ls,lz];exact rfl) ?_
       refine still_val rfl rfl (R_move (v:=.int .i64 _) rfl rfl) (by simp only [ls,lz];exact rfl) ?_
       refine still_val rfl rfl (R_move (v:=.int .i64 _) rfl rfl) (by simp only [ls,lz];exact rfl) ?_
       refine still_val rfl rfl (R_move (v:=.int .i64 _) rfl rfl) (by simp only [ls,lz];exact rfl) ?_
       refine still_val rfl rfl (R_ixArr rfl rfl rfl Try.underlying105 (sz:=13) (by kernel_rfl) (by omega) (by omega)) (by simp only [ls,lz];exact rfl) ?_
       refine still_val rfl rfl (R_ixArr rfl rfl rfl Try.underlying103 (sz:=1) (by kernel_rfl) (by omega) (by omega)) (by simp only [ls,lz];exact rfl) ?_
       refine still_val rfl rfl (R_load rfl rfl Try.underlying3 rfl (hbj.cellAt i j _ (by omega) (by omega) (by omega))) (by simp only [ls,lz];exact rfl) ?_
       refine still_val rfl rfl (R_move (v:=.int .i64 _) rfl rfl) (by simp only [ls,lz];exact rfl) ?_
       refine still_val rfl rfl (R_move (v:=.int .i64 _) rfl rfl) (by simp only [ls,lz];exact rfl) ?_
       refine still_val rfl rfl (R_ixArr rfl rfl rfl Try.underlying105 (sz:=13) (by kernel_rfl) (by omega) (by omega)) (by simp only [ls,lz];exact rfl) ?_
       refine still_val rfl rfl (R_ixArr rfl rfl rfl Try.underlying103 (sz:=1) (by kernel_rfl) (by omega) (by omega)) (by simp only [ls,lz];exact rfl) ?_
       refine still_val rfl rfl (R_load rfl rfl Try.underlying3 rfl (hbj.cellAt i k _ (by omega) (by omega) (by omega))) (by simp only [ls,lz];exact rfl) ?_
       refine still_val rfl rfl (R_move (v:=.int .i64 _) rfl rfl) (by simp only [ls,lz];exact rfl) ?_
       refine still_val rfl rfl (R_move (v:=.int .i64 _) rfl rfl) (by simp only [ls,lz];exact rfl) ?_
       refine still_val rfl rfl (R_ixArr rfl rfl rfl Try.underlying105 (sz:=13) (by kernel_rfl) (by omega) (by omega)) (by simp only [ls,lz];exact rfl) ?_
       refine still_val rfl rfl (R_ixArr rfl rfl rfl Try.underlying103 (sz:=1) (by kernel_rfl) (by omega) (by omega)) (by simp only [ls,lz];exact rfl) ?_
       refine still_val rfl rfl (R_load rfl rfl Try.underlying3 rfl (hbj.cellAt k j _ (by omega) (by omega) (by omega))) (by simp only [ls,lz];exact rfl) ?_
       refine still_val rfl rfl (R_add rfl rfl rfl Hsf.out.1 Hsf.out.2) (by simp only [ls,lz];exact rfl) ?_
       refine still_val rfl rfl (R_min rfl rfl rfl rfl) (by simp only [ls,lz];exact rfl) ?_
       refine still_val rfl rfl (R_ixArr rfl rfl rfl Try.underlying105 (sz:=13) (by kernel_rfl) (by omega) (by omega)) (by simp only [ls,lz];exact rfl) ?_
       refine still_val rfl rfl (R_ixArr rfl rfl rfl Try.underlying103 (sz:=1) (by kernel_rfl) (by omega) (by omega)) (by simp only [ls,lz];exact rfl) ?_
       refine wpStill_nil ?_
       refine seq_to rfl rfl (R_store (v:=.int .i64 _) rfl rfl rfl rfl (by kernel_rfl) (hbj.cellAt i j _ (by omega) (by omega) (by omega)) (hbj.frozen _)) fun W4 hW4=>?_
       refine wpList_nil ?_
       replace hbj:=hbj.set' i j hW4 (by omega) (by omega) (by omega)
       replace Hqj:=Lib.hid (keep_set hW4 Hqj.out (Ne.symm hnb))
       replace Ej:=Ej.set' hW4 (by simp)
       clear hW4
       have Hbj:=Lib.hid hbj;clear hbj
       go_wp2
       go_roundw
       case rel=>exact ⟨j + 1,by omega,by go_num,Hbj.out,Hqj.out,Ej⟩
       case measure=>simp [intOf];omega
      ·obtain rfl : j = 13:=by omega
       have c:=hbj.cell i i (by omega) (by omega)
       by_cases hneg : rowTo mi k i 13 i i < 0
       ·go_wp2
        refine hpanic.out ?_ _ _ rfl Ej
        have h1 : iTo mk k (i + 1) = none:=by simp only [iTo,Hmi.out,hneg,if_true]
        have h2:=iTo_lt h1 (i':=13) (by omega)
        have h3 : kTo m (k + 1) = none:=by simp only [kTo,Hmk.out,h2]
        exact kTo_lt h3 (by omega)
       ·have hneg' : ¬ rowTo mi k i 13 i i < 0:=hneg
        have h1 : Hid (iTo mk k (i + 1) = some (rowTo mi k i 13)):=by show _ = _;simp only [iTo,Hmi.out,hneg',if_false]
        go_wp2
        go_roundw
        case rel=>exact ⟨i + 1,_,by omega,by go_num,h1.out,hbj,Hqj.out,Ej⟩
        case measure=>simp [intOf];omega
    ·obtain rfl : i = 13:=by omega
     have h1 : Hid (kTo m (k + 1) = some mi):=by show _ = _;simp only [kTo,Hmk.out,Hmi.out]
     go_wp2
     go_roundw
     case rel=>exact ⟨k + 1,_,by omega,by go_num,h1.out,hbi,Hqi.out,Ei⟩
     case measure=>simp [intOf];omega
  ·obtain rfl : k = 13:=by omega
   have hbo : MatAt wr Bo 105 m:=⟨Hqk.out⟩
   have hr2:=Ek.keep hr (by simp;exact Ne.symm hne)
   have Hr2:=Lib.hid hr2;clear hr2
   cases he : eqM mk m
   ·have He:=Lib.hid he;clear he
    go_upto_region 17 with (fail)
    refine wp_region_lit ?_
    refine seq_val rfl rfl (R_loadRow (cs:=matList mk) rfl rfl Try.underlying105 rfl (matInfo mk) hbk.range) (by simp only [ls,lz];exact rfl) ?_
    refine seq_val rfl rfl (R_loadRow (cs:=matList m) rfl rfl Try.underlying105 rfl (matInfo m) hbo.range) (by simp only [ls,lz];exact rfl) ?_
    refine seq_val rfl rfl (R_neqMat' (m:=mk) (m':=m) (b:=true) rfl (congrArg Value.agg (matList_toArray mk)) (congrArg Value.agg (matList_toArray m)) (by rw [He.out];rfl)) (by simp only [ls,lz];exact rfl) ?_
    refine wpList_nil ?_
    go_wp2
    refine wp_goto ?_
    exact hjump.out mk Hmk.out He.out _ hbk Ek _ _ _ _ _ _ _ _ _ _ _ _ _ _ _ _ _ _ _ _ _ _ _ _ _ _ _ _ _ _ _ _ _ _ _ _ _ _ _ _ _ _ _ _ _ _ _ _ _ _ _
   ·have He:=Lib.hid he;clear he
    go_upto_region 17 with (fail)
    refine wp_region_lit ?_
    refine seq_val rfl rfl (R_loadRow (cs:=matList mk) rfl rfl Try.underlying105 rfl (matInfo mk) hbk.range) (by simp only [ls,lz];exact rfl) ?_
    refine seq_val rfl rfl (R_loadRow (cs:=matList m) rfl rfl Try.underlying105 rfl (matInfo m) hbo.range) (by simp only [ls,lz];exact rfl) ?_
    refine seq_val rfl rfl (R_neqMat' (m:=mk) (m':=m) (b:=false) rfl (congrArg Value.agg (matList_toArray mk)) (congrArg Value.agg (matList_toArray m)) (by rw [He.out];rfl)) (by simp only [ls,lz];exact rfl) ?_
    refine wpList_nil ?_
    go_upto_region 18 with (fail)
    refine wp_region_lit ?_
    refine seq_val rfl rfl (R_loadRow (cs:=matList mk) rfl rfl Try.underlying105 rfl (matInfo mk) hbk.range) (by simp only [ls,lz];exact rfl) ?_
    refine seq_to rfl rfl (R_storeRow (cs:=(matList mk).toArray) rfl rfl rfl (by rw [List.size_toArray];exact matInfo mk) (all_oneCell_toArray (matList_one mk)) Hr2.out (by rw [hz,List.size_toArray,matList_length])) fun W5 hW5=>?_
    refine wpList_nil ?_
    have q5 : W5.heap[Br]? = some (.cells (matCells mk) 105 (0,0)):=by
     rw [hW5,stored_block Hr2.out (by rw [hz,List.size_toArray,matList_length]),matList_toArray]
    have E5 : Ext [Bb,Br] w W5:=by rw [hW5];exact (Ek.mono (by simp)).setCells (fun _=>by simp) _ _
    clear hW5
    go_wp2
    exact hret.out mk Hmk.out He.out _ _ rfl rfl q5 E5
set_option maxRecDepth 100000 in
set_option maxHeartbeats 1000000 in
theorem narrow_any (m : Nat → Nat → Int) (w : World) (hs : safeM m) (hs2 : ∀ m',kTo m 13 = some m' → safeM m' ∧ ∃ m'',kTo m' 13 = some m'' ∧ eqM m'' m' = true) :
  Calls Try.prog 132 #[.agg (matCells m)] w fun e w'=>Ext [] w w' ∧
   ((kTo m 13 = none ∧ e = .panicked [{ v:=.iface 163 (.agg #[]),recovered:=false }]) ∨ ∃ m',kTo m 13 = some m' ∧ e = .returned (.agg (matCells m'))):=by
 go_enter Try.func132,Try.ntmps132
 go_wp2_with fail
 have q0 : MatAt ((w.alloc (.cells (matCells m) 105)).alloc (.cells Try.zeroCells105 105)) w.heap.size 105 m:=⟨blk_old (blk_new rfl)⟩
 have q1 : ((w.alloc (.cells (matCells m) 105)).alloc (.cells Try.zeroCells105 105)).heap[w.heap.size + 1]? = _:=blk_new (size_alloc _ _).symm
 have E0 : Ext [] w ((w.alloc (.cells (matCells m) 105)).alloc (.cells Try.zeroCells105 105)):=((Ext.refl _ _).alloc _).alloc _
 generalize (w.alloc (.cells (matCells m) 105)).alloc (.cells Try.zeroCells105 105) = W at q0 q1 E0 ⊢
 refine wp_scope_jumps (rest:=.seq .skip narrowRest) 0 (fun a w'=>∃ m',kTo m 13 = some m' ∧ eqM m' m = false ∧ MatAt w' w.heap.size 105 m' ∧ Ext [w.heap.size] W w' ∧ ∃ x0 x3 x4 x5 x6 x7 x8 x9 x10 x11 x12 x13 x14 x15 x16 x17 x18 x19 x20 x21 x22 x23 x24 x25 x26 x27 x28 x29 x30 x31 x32 x33 x34 x35 x36 x37 x38 x39 x40 x41 x42 x43 x44 x45 x46 x47 x48 x49 x50 x51 x52 : Value,a = ⟨(x0 :: .pointer (some ⟨w.heap.size,0,none⟩) :: .pointer (some ⟨w.heap.size + 1,0,none⟩) :: x3 :: x4 :: x5 :: x6 :: x7 :: x8 :: x9 :: x10 :: x11 :: x12 :: x13 :: x14 :: x15 :: x16 :: x17 :: x18 :: x19 :: x20 :: x21 :: x22 :: x23 :: x24 :: x25 :: x26 :: x27 :: x28 :: x29 :: x30 :: x31 :: x32 :: x33 :: x34 :: x35 :: x36 :: x37 :: x38 :: x39 :: x40 :: x41 :: x42 :: x43 :: x44 :: x45 :: x46 :: x47 :: x48 :: x49 :: x50 :: x51 :: x52 :: []).toArray,[]⟩) (fun _ _=>0) rfl ?_ ?_
 ·refine wp_seq_k fun K2 hK2=>?_
  refine wp_label ?_
  refine hK2 _ _ (narrow_rest _ m hs w.heap.size (w.heap.size + 1) W q0 _ Try.zeroCells105_size q1 (by omega) _ _ _ _ _ _ _ _ _ _ _ _ _ _ _ _ _ _ _ _ _ _ _ _ _ _ _ _ _ _ _ _ _ _ _ _ _ _ _ _ _ _ _ _ _ _ _ _ _ _ _ ?_ ?_ ?_)
  ·intro hn a w' hd hx
   exact ⟨hd,(E0.trans' hx (by simp)),.inl ⟨hn,rfl⟩⟩
  ·intro m' hm he w' hb' hx x0 x3 x4 x5 x6 x7 x8 x9 x10 x11 x12 x13 x14 x15 x16 x17 x18 x19 x20 x21 x22 x23 x24 x25 x26 x27 x28 x29 x30 x31 x32 x33 x34 x35 x36 x37 x38 x39 x40 x41 x42 x43 x44 x45 x46 x47 x48 x49 x50 x51 x52
   exact ⟨rfl,m',hm,he,hb',hx,x0,x3,x4,x5,x6,x7,x8,x9,x10,x11,x12,x13,x14,x15,x16,x17,x18,x19,x20,x21,x22,x23,x24,x25,x26,x27,x28,x29,x30,x31,x32,x33,x34,x35,x36,x37,x38,x39,x40,x41,x42,x43,x44,x45,x46,x47,x48,x49,x50,x51,x52,rfl⟩
  ·intro m' hm he a w' hd ht hq hx
   exact ⟨hd,_,res_cell rfl ht Try.underlying105 rfl (by rw [matCells_size];kernel_rfl) hq,E0.trans' hx (by simp),.inr ⟨m',hm,rfl⟩⟩
 ·rintro a w' ⟨m',hm,he,hb',hx,x0,x3,x4,x5,x6,x7,x8,x9,x10,x11,x12,x13,x14,x15,x16,x17,x18,x19,x20,x21,x22,x23,x24,x25,x26,x27,x28,x29,x30,x31,x32,x33,x34,x35,x36,x37,x38,x39,x40,x41,x42,x43,x44,x45,x46,x47,x48,x49,x50,x51,x52,rfl⟩
  obtain ⟨hs',m'',hm'',he'⟩:=hs2 m' hm
  have hq:=hx.keep q1 (by simp)
  refine wp_seq_k fun K2 hK2=>?_
  refine wp_skip ?_
  refine hK2 _ _ (narrow_rest _ m' hs' w.heap.size (w.heap.size + 1) w' hb' _ Try.zeroCells105_size hq (by omega) _ _ _ _ _ _ _ _ _ _ _ _ _ _ _ _ _ _ _ _ _ _ _ _ _ _ _ _ _ _ _ _ _ _ _ _ _ _ _ _ _ _ _ _ _ _ _ _ _ _ _ ?_ ?_ ?_)
  ·intro hn
   rw [hm''] at hn;cases hn
  ·intro m3 hm3 he3
   rw [hm''] at hm3;cases hm3;rw [he'] at he3;cases he3
  ·intro m3 hm3 he3 a w3 hd ht hq3 hx3
   have e3 : matCells m3 = matCells m':=matCells_congr (eqM_iff.1 he3)
   rw [e3] at hq3
   exact ⟨hd,_,res_cell rfl ht Try.underlying105 rfl (by rw [matCells_size];kernel_rfl) hq3,(E0.trans' hx (by simp)).trans' hx3 (by simp),.inr ⟨m',hm,rfl⟩⟩
theorem MatAt.congr {w : World} {b ty} {m m' : Nat → Nat → Int} (h : MatAt w b ty m) (e : ∀ i j,i < 13 → j < 13 → m i j = m' i j) : MatAt w b ty m':=⟨by rw [← matCells_congr e];exact h.blk⟩
theorem getD_mem {α : Type} {l : List α} {i : Nat} (d : α) (h : i < l.length) : l.getD i d ∈ l:=by
 rw [List.getD_eq_getElem?_getD,List.getElem?_eq_getElem h];exact List.getElem_mem h
theorem R_build {P : Program} {ρ : Operand → Value} {o : Oper} {w : World} {t : TypeId} {parts : Array (Nat × Operand)} {cells : Array Value} (ho : o.op = .build t parts) (h : P.built t (parts.map fun (i,x)=>(i,ρ x)).toList = some cells) : (execOp ρ o).run P w = .ok (.value (.agg cells)) w:=by
 unfold execOp
 simp [ho,run_build w t _ cells h]
theorem rows_at {α : Type} {w w' W : World} {xs : List α} {row : α → List Value} {a : Option Addr} {n cap sz : Nat} (d : α) (h : IsRows w (.slice a n cap) sz (xs.map row)) (E0 : Ext [] w W) {N : Nat} (hN : w.heap.size ≤ N) (e : Ext [N] W w') {i : Nat} (hi : i < xs.length) :
  ∃ b off,(∀ m c,Value.slice a m c = .slice (some ⟨b,off,none⟩) m c) ∧ w'.rangeAt b (off + i * sz) (row (xs.getD i d)):=by
 have hne : xs.map row ≠ []:=by
  intro h;have:=congrArg List.length h;simp at this;rw [this] at hi;simp at hi
 obtain ⟨b,off,ha,hb,hr⟩:=h.range rfl hne
 refine ⟨b,off,fun _ _=>by rw [ha],fun j u hu=>?_⟩
 have h0:=hr i (row (xs.getD i d)) (by simp [hi]) j u hu
 have e2 : Ext [N] w w':=(E0.mono (by simp)).trans e
 rw [e2.cell (a:=⟨b,off + i * sz + j,none⟩) hb (by simp;omega)]
 exact h0
def fM (i k : Nat) : Nat → Nat → Int:=fun p q=>if (p < i ∨ (p = i ∧ q < k)) ∧ p ≠ q then 1048576 else 0
theorem fM_hit {i k : Nat} (h : i ≠ k) : upd (fM i k) i k 1048576 = fM i (k + 1):=by
 funext p q
 unfold upd fM
 by_cases e : p = i ∧ q = k
 ·obtain ⟨rfl,rfl⟩:=e
  rw [if_pos ⟨rfl,rfl⟩,if_pos ⟨by omega,h⟩]
 ·rw [if_neg e]
  by_cases c : (p < i ∨ (p = i ∧ q < k)) ∧ p ≠ q
  ·rw [if_pos c,if_pos ⟨by omega,c.2⟩]
  ·rw [if_neg c,if_neg (by omega)]
theorem fM_diag {i : Nat} : fM i i = fM i (i + 1):=by
 funext p q
 unfold fM
 by_cases c : (p < i ∨ (p = i ∧ q < i)) ∧ p ≠ q
 ·rw [if_pos c,if_pos ⟨by omega,c.2⟩]
 ·rw [if_neg c,if_neg (by omega)]
set_option maxRecDepth 100000 in
set_option maxHeartbeats 1000000 in
theorem loose_any (t : Tp) (ok : t.Ok) (gv rv lv : Value) (out : Int) (ho1 : 0 ≤ out) (ho2 : out < 65536) (w : World) (ht : IsTp w gv rv lv t) :
  Calls Try.prog 133 #[tpV t gv rv lv,.int .u16 out] w fun e w'=>e = .returned (.agg (matCells (looseM t out))) ∧ Ext [] w w':=by
 unfold tpV
 obtain ⟨ra,rcap,hrv,-,-⟩:=id ht.rd
 rw [List.length_map] at hrv
 subst hrv
 obtain ⟨la,lcap,hlv,-,-⟩:=id ht.lk
 rw [List.length_map] at hlv
 subst hlv
 obtain ⟨ga,gcap,hgv,-,-⟩:=id ht.gr
 have hgl:=ok.grl
 have hS1:=ok.S1
 have hgne : t.gr.map grRow ≠ []:=by
  intro h;have:=congrArg List.length h;simp at this;rw [this] at hgl;simp at hgl;omega
 obtain ⟨gb,goff,rfl,hgb,hgr⟩:=ht.gr.range hgv hgne
 rw [List.length_map] at hgv
 subst hgv
 have Hgl:=Lib.hid hgl;clear hgl hS1 hgne
 have Hgr:=Lib.hid hgr;clear hgr
 have Hgb:=Lib.hid hgb;clear hgb
 have Hok:=Lib.hid ok;clear ok
 have Ht:=Lib.hid ht;clear ht
 go_enter Try.func133,Try.ntmps133
 go_wp2_with fail
 have q0 : (((w.alloc (.cells #[.int .i64 t.S,.int .i64 t.A,.int .i64 t.T,.int .i64 t.bl,.int .i64 t.bm,.int .i64 t.pl,.int .i64 t.pm,.int .i64 t.sl,.slice (some ⟨gb,goff,none⟩) t.gr.length gcap,.slice ra t.rd.length rcap,.slice la t.lk.length lcap] 100)).alloc (.cells Try.zeroCells105 105)).alloc (.cells Try.zeroCells105 105)).heap[w.heap.size]? = _:=blk_old (blk_old (blk_new rfl))
 have q1 : (((w.alloc (.cells #[.int .i64 t.S,.int .i64 t.A,.int .i64 t.T,.int .i64 t.bl,.int .i64 t.bm,.int .i64 t.pl,.int .i64 t.pm,.int .i64 t.sl,.slice (some ⟨gb,goff,none⟩) t.gr.length gcap,.slice ra t.rd.length rcap,.slice la t.lk.length lcap] 100)).alloc (.cells Try.zeroCells105 105)).alloc (.cells Try.zeroCells105 105)).heap[w.heap.size + 1]? = _:=blk_old (blk_new (size_alloc _ _).symm)
 have b0 : MatAt (((w.alloc (.cells #[.int .i64 t.S,.int .i64 t.A,.int .i64 t.T,.int .i64 t.bl,.int .i64 t.bm,.int .i64 t.pl,.int .i64 t.pm,.int .i64 t.sl,.slice (some ⟨gb,goff,none⟩) t.gr.length gcap,.slice ra t.rd.length rcap,.slice la t.lk.length lcap] 100)).alloc (.cells Try.zeroCells105 105)).alloc (.cells Try.zeroCells105 105)) (w.heap.size + 1 + 1) 105 (fM 0 0):=⟨by rw [show matCells (fM 0 0) = Try.zeroCells105 from (matCells_congr fun i j _ _=>by simp [fM]).trans zeroMat.symm];exact blk_new (by rw [size_alloc,size_alloc])⟩
 have E0 : Ext [] w (((w.alloc (.cells #[.int .i64 t.S,.int .i64 t.A,.int .i64 t.T,.int .i64 t.bl,.int .i64 t.bm,.int .i64 t.pl,.int .i64 t.pm,.int .i64 t.sl,.slice (some ⟨gb,goff,none⟩) t.gr.length gcap,.slice ra t.rd.length rcap,.slice la t.lk.length lcap] 100)).alloc (.cells Try.zeroCells105 105)).alloc (.cells Try.zeroCells105 105)):=(((Ext.refl _ _).alloc _).alloc _).alloc _
 generalize ((w.alloc (.cells #[.int .i64 t.S,.int .i64 t.A,.int .i64 t.T,.int .i64 t.bl,.int .i64 t.bm,.int .i64 t.pl,.int .i64 t.pm,.int .i64 t.sl,.slice (some ⟨gb,goff,none⟩) t.gr.length gcap,.slice ra t.rd.length rcap,.slice la t.lk.length lcap] 100)).alloc (.cells Try.zeroCells105 105)).alloc (.cells Try.zeroCells105 105) = W at q0 q1 b0 E0 ⊢
 have Q0:=Lib.hid q0;clear q0
 have Q1:=Lib.hid q1;clear q1
 generalize hN0 : w.heap.size = N0 at Q0 Q1 b0 ⊢
 have HN0:=Lib.hid hN0;clear hN0
 have Hrow : Hid (∀ w' : World,Ext [N0 + 1 + 1] W w' → ∀ i : Nat,i < t.gr.length → w'.rangeAt gb (goff + i * 2) [.int .i64 (t.gr.getD i (0,0)).1,.int .i64 (t.gr.getD i (0,0)).2]):=by
  intro w' e i hi j u hu
  have hx : (t.gr.map grRow)[i]? = some [.int .i64 (t.gr.getD i (0,0)).1,.int .i64 (t.gr.getD i (0,0)).2]:=by
   simp [grRow,hi]
  have h0:=Hgr.out i _ hx j u hu
  have e2 : Ext [N0 + 1 + 1] w w':=(E0.mono (by simp)).trans e
  rw [e2.cell (a:=⟨gb,goff + i * 2 + j,none⟩) Hgb.out (by have:=Hgb.out;have:=HN0.out;simp;omega)]
  exact h0
 have Hrd : Hid (∀ w' : World,Ext [N0 + 1 + 1] W w' → ∀ i : Nat,i < t.rd.length → ∃ b off,(∀ m c,Value.slice ra m c = .slice (some ⟨b,off,none⟩) m c) ∧ w'.rangeAt b (off + i * 4) (rdRow (t.rd.getD i (0,0,0,0)))):=
  fun w' e i hi=>rows_at _ Ht.out.rd E0 (by have:=HN0.out;omega) e hi
 have Hlk : Hid (∀ w' : World,Ext [N0 + 1 + 1] W w' → ∀ i : Nat,i < t.lk.length → ∃ b off,(∀ m c,Value.slice la m c = .slice (some ⟨b,off,none⟩) m c) ∧ w'.rangeAt b (off + i * 6) (lkRow (t.lk.getD i (0,0,0,0,0,0)))):=
  fun w' e i hi=>rows_at _ Ht.out.lk E0 (by have:=HN0.out;omega) e hi
 have nin : Hid (N0 ∉ [N0 + 1 + 1]):=by show _ ∉ _;simp;omega
 go_loopw [15] (fun iv wr=>∃ i : Nat,i ≤ 13 ∧ iv = .int .i64 i ∧ MatAt wr (N0 + 1 + 1) 105 (fM i 0) ∧ Ext [N0 + 1 + 1] W wr) (fun iv _=>13 - (intOf iv).toNat)
 case atStart=>exact ⟨0,Nat.zero_le _,rfl,b0,Ext.refl _ _⟩
 case round =>
  obtain ⟨i,hi,rfl,hb,Ei⟩:=hrel
  by_cases hlt : i < 13
  ·go_wp2_with fail
   obtain ⟨wi,rfl⟩ : ∃ wi : World,wi = wr:=⟨_,rfl⟩
   go_loopw [18] (fun kv wr=>∃ k : Nat,k ≤ 13 ∧ kv = .int .i64 k ∧ MatAt wr (N0 + 1 + 1) 105 (fM i k) ∧ Ext [N0 + 1 + 1] W wr) (fun kv _=>13 - (intOf kv).toNat)
   case atStart=>exact ⟨0,Nat.zero_le _,rfl,hb,Ei⟩
   case round =>
    obtain ⟨k,hk,rfl,hbk,Ek⟩:=hrel
    by_cases hltk : k < 13
    ·by_cases hik : i = k
     ·subst hik
      have hne : (((i : Int)) != (i : Int)) = false:=by simp
      have h2 : Hid (MatAt wr (N0 + 1 + 1) 105 (fM i (i + 1))):=by show MatAt _ _ _ _;rw [← fM_diag];exact hbk
      go_wp2
      go_roundw
      case rel=>exact ⟨i + 1,by omega,by go_num,h2.out,Ek⟩
      case measure=>simp [intOf];omega
     ·have hne : (((i : Int)) != (k : Int)) = true:=by rw [bne_iff_ne];omega
      have c:=hbk.cell i k (by omega) (by omega)
      have f:=hbk.frozen (i * 13 + k)
      have h2 : Hid (MatAt (wr.setCell ⟨N0 + 1 + 1,i * 13 + k,none⟩ (.int .i64 1048576)) (N0 + 1 + 1) 105 (fM i (k + 1))):=by
       show MatAt _ _ _ _
       rw [← fM_hit hik];exact hbk.set i k (by omega) (by omega) _
      have h3 : Hid (Ext [N0 + 1 + 1] W (wr.setCell ⟨N0 + 1 + 1,i * 13 + k,none⟩ (.int .i64 1048576))):=Ek.setCell (by simp) _
      go_wp2
      go_roundw
      case rel=>exact ⟨k + 1,by omega,by go_num,h2.out,h3.out⟩
      case measure=>simp [intOf];omega
    ·obtain rfl : k = 13:=by omega
     have h2 : Hid (MatAt wr (N0 + 1 + 1) 105 (fM (i + 1) 0)):=hbk.congr fun p q hp hq=>by unfold fM;by_cases c : (p < i ∨ (p = i ∧ q < 13)) ∧ p ≠ q;(rw [if_pos c,if_pos ⟨by omega,c.2⟩]);(rw [if_neg c,if_neg (by omega)])
     go_wp2
     go_roundw
     case rel=>exact ⟨i + 1,by omega,by go_num,h2.out,Ek⟩
     case measure=>simp [intOf];omega
  ·obtain rfl : i = 13:=by omega
   have Q0w:=Lib.hid (Ei.keep Q0.out nin.out)
   have c0:=(cells_of_block Q0w.out 0).trans rfl
   have hb1 : MatAt wr (N0 + 1 + 1) 105 farM:=hb.congr fun p q hp hq=>by
    unfold fM farM
    by_cases c : p = q
    ·rw [if_neg (by omega),if_pos c]
    ·rw [if_pos ⟨by omega,c⟩,if_neg c]
   clear hb
   go_wp2_with fail
   obtain ⟨w1,rfl⟩ : ∃ w1 : World,w1 = wr:=⟨_,rfl⟩
   clear c0 Q0w
   go_loopw [33] (fun sv wr=>∃ s : Nat,s ≤ t.S.toNat ∧ sv = .int .i64 s ∧ MatAt wr (N0 + 1 + 1) 105 (singTo t farM s) ∧ Ext [N0 + 1 + 1] W wr) (fun sv _=>t.S.toNat - (intOf sv).toNat)
   case atStart=>exact ⟨0,Nat.zero_le _,rfl,hb1,Ei⟩
   case round =>
    obtain ⟨s,hs,rfl,hbs,Es⟩:=hrel
    have o1:=Hok.out.S1
    have o2:=Hok.out.S3
    by_cases hlts : (s : Int) < t.S
    ·have Q0s:=Lib.hid (Es.keep Q0.out nin.out)
     have c1:=(cells_of_block Q0s.out 1).trans rfl
     go_wp2_with fail
     obtain ⟨ws,rfl⟩ : ∃ ws : World,ws = wr:=⟨_,rfl⟩
     clear c1 Q0s
     go_loopw [39] (fun av wr=>∃ a : Nat,a ≤ t.A.toNat ∧ av = .int .i64 a ∧ MatAt wr (N0 + 1 + 1) 105 (cellTo t (singTo t farM s) s a) ∧ Ext [N0 + 1 + 1] W wr) (fun av _=>t.A.toNat - (intOf av).toNat)
     case atStart=>exact ⟨0,Nat.zero_le _,rfl,hbs,Es⟩
     case round =>
      obtain ⟨a,ha,rfl,hba,Ea⟩:=hrel
      have o3:=Hok.out.A1
      have o4:=Hok.out.A3
      have o5:=Hok.out.bl1
      have o6:=Hok.out.bm1
      have o7:=Hok.out.b
      by_cases hlta : (a : Int) < t.A
      ·go_upto_region 18 with (fail)
       refine wp_region_st 6 follows (by kernel_rfl) fun W3 hW3 eW3=>?_
       replace hba:=hba.same hW3
       replace Ea:=Ea.nil eW3
       have Q0a:=Lib.hid (Ea.keep Q0.out nin.out)
       clear hW3 eW3
       refine still_val rfl rfl (R_move (v:=.int .i64 _) rfl rfl) (by simp only [ls,lz];exact rfl) ?_
       refine still_val rfl rfl (R_move (v:=.int .i64 _) rfl rfl) (by simp only [ls,lz];exact rfl) ?_
       refine still_call rfl rfl (by kernel_rfl) (cell_any s a _ (by omega) (by omega) (by omega) (by omega)) (by simp only [ls,lz];exact rfl) ?_
       refine still_val rfl rfl (R_fieldAddr rfl rfl Try.underlying100 rfl (n:=0) (sz:=11) rfl (by kernel_rfl) (by decide)) (by simp only [ls,lz];exact rfl) ?_
       refine still_val rfl rfl (R_fieldAddr rfl rfl Try.underlying28 rfl (n:=3) (sz:=2) rfl (by kernel_rfl) (by decide)) (by simp only [ls,lz];exact rfl) ?_
       refine still_val rfl rfl (R_loadRow (cs:=[.int .i64 t.bl,.int .i64 t.bm]) rfl rfl Try.underlying23 rfl (by kernel_rfl) (range_mid Q0a.out (fun j v h=>by rcases j with _ | _ | j <;> simp_all))) (by simp only [ls,lz];exact rfl) ?_
       refine wpStill_nil ?_
       refine seq_call rfl rfl (by kernel_rfl) (limit_any _ (N0 + 1 + 1) 0 (1 + (s : Int) * 3 + a) t.bl t.bm _ hba (by omega) (by omega) (by omega) (by omega) (by omega) (by omega)) fun e w' hR=>?_;obtain ⟨rfl,hba',e'⟩:=hR;refine ⟨_,_,rfl,(by simp only [ls,lz];exact rfl),?_⟩
       refine wpList_nil ?_
       replace Ea:=Ea.trans e'
       clear e' hba
       by_cases h0a : (0 : Int) < (a : Int)
       ·go_upto_region 20 with (fail)
        have g1:=Hok.out.gr (t.gr.getD s (0,0)) (getD_mem _ (by have:=Hgl.out;omega))
        refine wp_region_st 13 follows (by kernel_rfl) fun W4 hW4 eW4=>?_
        replace hba':=hba'.same hW4
        replace Ea:=Ea.nil eW4
        have Q0b:=Lib.hid (Ea.keep Q0.out nin.out)
        have hgl2:=Hgl.out
        have Hr2:=Lib.hid (Hrow.out W4 Ea s (by have:=Hgl.out;omega))
        clear hW4 eW4
        refine still_val rfl rfl (R_move (v:=.int .i64 _) rfl rfl) (by simp only [ls,lz];exact rfl) ?_
        refine still_val rfl rfl (R_move (v:=.int .i64 _) rfl rfl) (by simp only [ls,lz];exact rfl) ?_
        refine still_val rfl rfl (R_sub rfl rfl rfl (by omega) (by omega)) (by simp only [ls,lz];exact rfl) ?_
        refine still_call rfl rfl (by kernel_rfl) (cell_any s ((a : Int) - 1) _ (by omega) (by omega) (by omega) (by omega)) (by simp only [ls,lz];exact rfl) ?_
        refine still_val rfl rfl (R_move (v:=.int .i64 _) rfl rfl) (by simp only [ls,lz];exact rfl) ?_
        refine still_val rfl rfl (R_move (v:=.int .i64 _) rfl rfl) (by simp only [ls,lz];exact rfl) ?_
        refine still_call rfl rfl (by kernel_rfl) (cell_any s a _ (by omega) (by omega) (by omega) (by omega)) (by simp only [ls,lz];exact rfl) ?_
        refine still_val rfl rfl (R_fieldAddr rfl rfl Try.underlying100 rfl (n:=0) (sz:=11) rfl (by kernel_rfl) (by decide)) (by simp only [ls,lz];exact rfl) ?_
        refine still_val rfl rfl (R_fieldAddr rfl rfl Try.underlying28 rfl (n:=8) (sz:=1) rfl (by kernel_rfl) (by decide)) (by simp only [ls,lz];exact rfl) ?_
        refine still_val rfl rfl (R_load rfl rfl Try.underlying24 rfl ((cells_of_block Q0b.out 8).trans rfl)) (by simp only [ls,lz];exact rfl) ?_
        refine still_val rfl rfl (R_move (v:=.int .i64 _) rfl rfl) (by simp only [ls,lz];exact rfl) ?_
        refine still_val rfl rfl (R_ixSlice rfl rfl rfl Try.underlying24 (sz:=2) (by kernel_rfl) (by omega) (by omega)) (by simp only [ls,lz];exact rfl) ?_
        refine still_val rfl rfl (R_loadRow (cs:=[.int .i64 (t.gr.getD s (0,0)).1,.int .i64 (t.gr.getD s (0,0)).2]) rfl rfl Try.underlying23 rfl (by kernel_rfl) Hr2.out) (by simp only [ls,lz];exact rfl) ?_
        refine wpStill_nil ?_
        refine seq_call rfl rfl (by kernel_rfl) (limit_any _ (N0 + 1 + 1) (1 + (s : Int) * 3 + ((a : Int) - 1)) (1 + (s : Int) * 3 + a) (t.gr.getD s (0,0)).1 (t.gr.getD s (0,0)).2 _ hba' (by omega) (by omega) (by omega) (by omega) (by omega) (by omega)) fun e w' hR=>?_;obtain ⟨rfl,hbb,e2⟩:=hR;refine ⟨_,_,rfl,(by simp only [ls,lz];exact rfl),?_⟩
        refine wpList_nil ?_
        replace Ea:=Ea.trans e2
        clear e2 hgl2
        go_wp2
        go_roundw
        case rel=>exact ⟨a + 1,by omega,by go_num,by unfold cellTo;rw [if_pos h0a];exact hbb,Ea⟩
        case measure=>simp [intOf];omega
       ·go_wp2
        go_roundw
        case rel=>exact ⟨a + 1,by omega,by go_num,by unfold cellTo;rw [if_neg h0a];exact hba',Ea⟩
        case measure=>simp [intOf];omega
      ·go_wp2
       go_roundw
       case rel=>exact ⟨s + 1,by omega,by go_num,by unfold singTo;rw [← show a = t.A.toNat by omega];exact hba,Ea⟩
       case measure=>simp [intOf];omega
    ·have hs' : s = t.S.toNat:=by omega
     have hb2 : MatAt wr (N0 + 1 + 1) 105 (singTo t farM t.S.toNat):=by rw [← hs'];exact hbs
     clear hbs hs' hs
     have Q0t:=Lib.hid (Es.keep Q0.out nin.out)
     have c2:=(cells_of_block Q0t.out 2).trans rfl
     go_wp2_with fail
     obtain ⟨w2,rfl⟩ : ∃ w2 : World,w2 = wr:=⟨_,rfl⟩
     clear c2 Q0t
     go_loopw [70] (fun tv wr=>∃ i : Nat,i ≤ t.T.toNat ∧ tv = .int .i64 i ∧ MatAt wr (N0 + 1 + 1) 105 (tailTo t (singTo t farM t.S.toNat) i) ∧ Ext [N0 + 1 + 1] W wr) (fun tv _=>t.T.toNat - (intOf tv).toNat)
     case atStart=>exact ⟨0,Nat.zero_le _,rfl,hb2,Es⟩
     case round =>
      obtain ⟨i,hi,rfl,hbt,Et⟩:=hrel
      have o3:=Hok.out.T1
      have o4:=Hok.out.T3
      have o5:=Hok.out.pl1
      have o6:=Hok.out.pm1
      have o7:=Hok.out.p
      by_cases hltt : (i : Int) < t.T
      ·go_upto_region 26 with (fail)
       refine wp_region_st 13 follows (by kernel_rfl) fun W5 hW5 eW5=>?_
       replace hbt:=hbt.same hW5
       replace Et:=Et.nil eW5
       have Q0a:=Lib.hid (Et.keep Q0.out nin.out)
       clear hW5 eW5
       refine still_val rfl rfl (R_move (v:=.int .i64 _) rfl rfl) (by simp only [ls,lz];exact rfl) ?_
       refine still_call rfl rfl (by kernel_rfl) (tug_any i _ (by omega) (by omega)) (by simp only [ls,lz];exact rfl) ?_
       refine still_val rfl rfl (R_fieldAddr rfl rfl Try.underlying100 rfl (n:=0) (sz:=11) rfl (by kernel_rfl) (by decide)) (by simp only [ls,lz];exact rfl) ?_
       refine still_val rfl rfl (R_fieldAddr rfl rfl Try.underlying28 rfl (n:=5) (sz:=2) rfl (by kernel_rfl) (by decide)) (by simp only [ls,lz];exact rfl) ?_
       refine still_val rfl rfl (R_fieldAddr rfl rfl Try.underlying23 rfl (n:=1) (sz:=1) rfl (by kernel_rfl) (by decide)) (by simp only [ls,lz];exact rfl) ?_
       refine still_val rfl rfl (R_load rfl rfl Try.underlying3 rfl ((cells_of_block Q0a.out 6).trans rfl)) (by simp only [ls,lz];exact rfl) ?_
       refine still_val rfl rfl (R_neg rfl rfl (by omega) (by omega)) (by simp only [ls,lz];exact rfl) ?_
       refine still_val rfl rfl (R_fieldAddr rfl rfl Try.underlying100 rfl (n:=0) (sz:=11) rfl (by kernel_rfl) (by decide)) (by simp only [ls,lz];exact rfl) ?_
       refine still_val rfl rfl (R_fieldAddr rfl rfl Try.underlying28 rfl (n:=5) (sz:=2) rfl (by kernel_rfl) (by decide)) (by simp only [ls,lz];exact rfl) ?_
       refine still_val rfl rfl (R_fieldAddr rfl rfl Try.underlying23 rfl (n:=0) (sz:=1) rfl (by kernel_rfl) (by decide)) (by simp only [ls,lz];exact rfl) ?_
       refine still_val rfl rfl (R_load rfl rfl Try.underlying3 rfl ((cells_of_block Q0a.out 5).trans rfl)) (by simp only [ls,lz];exact rfl) ?_
       refine still_val rfl rfl (R_neg rfl rfl (by omega) (by omega)) (by simp only [ls,lz];exact rfl) ?_
       refine still_val rfl rfl (R_build rfl (cells:=#[.int .i64 (-t.pm),.int .i64 (-t.pl)]) (by kernel_rfl)) (by simp only [ls,lz];exact rfl) ?_
       refine wpStill_nil ?_
       refine seq_call rfl rfl (by kernel_rfl) (limit_any _ (N0 + 1 + 1) 0 (10 + (i : Int)) (-t.pm) (-t.pl) _ hbt (by omega) (by omega) (by omega) (by omega) (by omega) (by omega)) fun e w' hR=>?_;obtain ⟨rfl,hbt',e'⟩:=hR;refine ⟨_,_,rfl,(by simp only [ls,lz];exact rfl),?_⟩
       refine wpList_nil ?_
       replace Et:=Et.trans e'
       clear e' hbt
       go_wp2
       go_roundw
       case rel=>exact ⟨i + 1,by omega,by go_num,hbt',Et⟩
       case measure=>simp [intOf];omega
      ·have hi' : i = t.T.toNat:=by omega
       have hb3 : MatAt wr (N0 + 1 + 1) 105 (tailTo t (singTo t farM t.S.toNat) t.T.toNat):=by rw [← hi'];exact hbt
       clear hbt hi' hi
       have Q0r:=Lib.hid (Et.keep Q0.out nin.out)
       have c3:=(cells_of_block Q0r.out 9).trans rfl
       go_wp2_with fail
       obtain ⟨w3,rfl⟩ : ∃ w3 : World,w3 = wr:=⟨_,rfl⟩
       clear c3 Q0r
       go_loopw [92] (fun jv wr=>∃ j : Nat,j ≤ t.rd.length ∧ jv = .int .i64 j ∧ MatAt wr (N0 + 1 + 1) 105 (readTo t out (tailTo t (singTo t farM t.S.toNat) t.T.toNat) j) ∧ Ext [N0 + 1 + 1] W wr) (fun jv _=>t.rd.length - (intOf jv).toNat)
       case atStart=>exact ⟨0,Nat.zero_le _,rfl,hb3,Et⟩
       case round =>
        obtain ⟨j,hj,rfl,hbr,Er⟩:=hrel
        have o8:=Hok.out.rdl
        by_cases hltr : (j : Int) < (t.rd.length : Int)
        ·go_upto_region 30 with (fail)
         obtain ⟨rb,roff,hra,hrr⟩:=Hrd.out wr Er j (by omega)
         have g1:=Hok.out.rd (t.rd.getD j (0,0,0,0)) (getD_mem _ (by omega))
         have g2:=Hok.out.sl0
         have g3:=Hok.out.sl5
         have g4:=Hok.out.S3
         have g5:=Hok.out.A3
         have g6:=Hok.out.T3
         have hB2:=hbr.lt
         have hWs:=Er.size
         refine wp_region_lit ?_
         refine seq_val rfl rfl (R_move (v:=.int .i64 _) rfl rfl) (by simp only [ls,lz];exact rfl) ?_
         refine seq_val rfl rfl (R_ixSlice (sz:=4) rfl (hra t.rd.length rcap) rfl Try.underlying25 (by kernel_rfl) (by omega) (by omega)) (by simp only [ls,lz];exact rfl) ?_
         refine seq_val rfl rfl (R_loadRow (cs:=rdRow (t.rd.getD j (0,0,0,0))) rfl rfl Try.underlying66 rfl (by kernel_rfl) hrr) (by simp only [ls,lz];exact rfl) ?_
         refine seq_new rfl rfl (R_alloc rfl Try.zeroValue66) (by simp only [ls,lz];exact rfl) fun W6 hW6=>?_
         have q6:=(congrArg (fun x : World=>x.heap[wr.heap.size]?) hW6).trans (blk_new rfl)
         have m6 : MatAt W6 (N0 + 1 + 1) 105 _:=hW6 ▸ hbr.alloc _
         have E6 : Ext [N0 + 1 + 1] W W6:=hW6 ▸ Er.alloc _
         refine seq_val rfl rfl (R_assign (v:=.int .i64 _) rfl rfl) (by simp only [ls,lz];exact rfl) ?_
         refine seq_to rfl rfl (R_storeRow (cs:=(rdRow (t.rd.getD j (0,0,0,0))).toArray) rfl rfl rfl (by kernel_rfl) (by simp [rdRow,Value.oneCell']) q6 (by rfl)) fun W7 hW7=>?_
         refine wpList_nil ?_
         have q7 : W7.heap[wr.heap.size]? = some (.cells (rdRow (t.rd.getD j (0,0,0,0))).toArray 66 (0,0)):=by rw [hW7];exact stored_block q6 rfl
         have m7 : MatAt W7 (N0 + 1 + 1) 105 (readTo t out (tailTo t (singTo t farM t.S.toNat) t.T.toNat) j):=⟨by rw [hW7,setCells_other _ _ _ _ _ (by omega)];exact m6.blk⟩
         have E7 : Ext [N0 + 1 + 1] W W7:=by rw [hW7];exact E6.setCells (fun h=>by omega) _ _
         clear hW7 E6 m6 q6 hW6 hrr
         generalize wr.heap.size = R0 at q7 hB2 hWs ⊢
         go_upto_region 31 with (fail)
         refine wp_region_lit ?_
         refine seq_val rfl rfl (R_move (v:=.int .u16 _) rfl rfl) (by simp only [ls,lz];exact rfl) ?_
         refine seq_val rfl rfl (R_move (v:=.int .i64 _) rfl rfl) (by simp only [ls,lz];exact rfl) ?_
         refine seq_call rfl rfl (by kernel_rfl) (has_any out j _ ho1 ho2 (by omega) (by omega)) fun e w' hR=>?_;obtain ⟨rfl,rfl⟩:=hR;refine ⟨_,_,rfl,(by simp only [ls,lz];exact rfl),?_⟩
         refine seq_val rfl rfl (R_not rfl rfl) (by simp only [ls,lz];exact rfl) ?_
         refine wpList_nil ?_
         rw [Int.toNat_natCast]
         by_cases hh : hasB out j = true
         ·rw [hh]
          have h2 : Hid (MatAt W7 (N0 + 1 + 1) 105 (readTo t out (tailTo t (singTo t farM t.S.toNat) t.T.toNat) (j + 1))):=by show MatAt _ _ _ _;unfold readTo;rw [if_pos hh];exact m7
          go_wp2
          go_roundw
          case rel=>exact ⟨j + 1,by omega,by go_num,h2.out,E7⟩
          case measure=>simp [intOf];omega
         ·rw [Bool.not_eq_true] at hh
          rw [hh]
          go_upto_region 32 with (fail)
          refine wp_region_st 13 follows (by kernel_rfl) fun W8 hW8 eW8=>?_
          replace m7:=m7.same hW8
          replace E7:=E7.nil eW8
          have Q0c:=Lib.hid (E7.keep Q0.out nin.out)
          replace q7:=keep_same hW8 q7
          clear hW8 eW8
          refine still_val rfl rfl (R_fieldAddr rfl rfl Try.underlying66 rfl (n:=2) (sz:=1) rfl (by kernel_rfl) (by decide)) (by simp only [ls,lz];exact rfl) ?_
          refine still_val rfl rfl (R_load rfl rfl Try.underlying3 rfl ((cells_of_block q7 2).trans rfl)) (by simp only [ls,lz];exact rfl) ?_
          refine still_call rfl rfl (by kernel_rfl) (tug_any (t.rd.getD j (0,0,0,0)).2.2.1 _ (by omega) (by omega)) (by simp only [ls,lz];exact rfl) ?_
          refine still_val rfl rfl (R_fieldAddr rfl rfl Try.underlying66 rfl (n:=0) (sz:=1) rfl (by kernel_rfl) (by decide)) (by simp only [ls,lz];exact rfl) ?_
          refine still_val rfl rfl (R_load rfl rfl Try.underlying3 rfl ((cells_of_block q7 0).trans rfl)) (by simp only [ls,lz];exact rfl) ?_
          refine still_val rfl rfl (R_fieldAddr rfl rfl Try.underlying66 rfl (n:=1) (sz:=1) rfl (by kernel_rfl) (by decide)) (by simp only [ls,lz];exact rfl) ?_
          refine still_val rfl rfl (R_load rfl rfl Try.underlying3 rfl ((cells_of_block q7 1).trans rfl)) (by simp only [ls,lz];exact rfl) ?_
          refine still_call rfl rfl (by kernel_rfl) (cell_any (t.rd.getD j (0,0,0,0)).1 (t.rd.getD j (0,0,0,0)).2.1 _ (by omega) (by omega) (by omega) (by omega)) (by simp only [ls,lz];exact rfl) ?_
          refine still_val rfl rfl (R_fieldAddr rfl rfl Try.underlying66 rfl (n:=3) (sz:=1) rfl (by kernel_rfl) (by decide)) (by simp only [ls,lz];exact rfl) ?_
          refine still_val rfl rfl (R_load rfl rfl Try.underlying3 rfl ((cells_of_block q7 3).trans rfl)) (by simp only [ls,lz];exact rfl) ?_
          refine still_val rfl rfl (R_fieldAddr rfl rfl Try.underlying100 rfl (n:=0) (sz:=11) rfl (by kernel_rfl) (by decide)) (by simp only [ls,lz];exact rfl) ?_
          refine still_val rfl rfl (R_fieldAddr rfl rfl Try.underlying28 rfl (n:=7) (sz:=1) rfl (by kernel_rfl) (by decide)) (by simp only [ls,lz];exact rfl) ?_
          refine still_val rfl rfl (R_load rfl rfl Try.underlying3 rfl ((cells_of_block Q0c.out 7).trans rfl)) (by simp only [ls,lz];exact rfl) ?_
          refine wpStill_nil ?_
          refine seq_call rfl rfl (by kernel_rfl) (around_any (t.rd.getD j (0,0,0,0)).2.2.2 t.sl _ (by omega) (by omega) (by omega) (by omega)) fun e w' hR=>?_;obtain ⟨rfl,hB8⟩:=hR;refine ⟨_,_,rfl,(by simp only [ls,lz];exact rfl),?_⟩
          have m8 : MatAt w' (N0 + 1 + 1) 105 _:=⟨(Ext.of_below hB8).keep0 m7.blk⟩
          replace E7:=E7.nil (Ext.of_below hB8)
          clear hB8
          refine seq_call rfl rfl (by kernel_rfl) (limit_any _ (N0 + 1 + 1) (10 + (t.rd.getD j (0,0,0,0)).2.2.1) (1 + (t.rd.getD j (0,0,0,0)).1 * 3 + (t.rd.getD j (0,0,0,0)).2.1) ((t.rd.getD j (0,0,0,0)).2.2.2 - t.sl) ((t.rd.getD j (0,0,0,0)).2.2.2 + t.sl) _ m8 (by omega) (by omega) (by omega) (by omega) (by omega) (by omega)) fun e w9 hR=>?_
          obtain ⟨rfl,m9,e9⟩:=hR
          refine ⟨_,_,rfl,(by simp only [ls,lz];exact rfl),?_⟩
          refine wpList_nil ?_
          replace E7:=E7.trans e9
          have h2 : Hid (MatAt w9 (N0 + 1 + 1) 105 (readTo t out (tailTo t (singTo t farM t.S.toNat) t.T.toNat) (j + 1))):=by show MatAt _ _ _ _;unfold readTo;rw [if_neg (by rw [hh];decide)];exact m9
          clear e9 m9 m8 q7
          go_wp2
          go_roundw
          case rel=>exact ⟨j + 1,by omega,by go_num,h2.out,E7⟩
          case measure=>simp [intOf];omega
        ·have hj' : j = t.rd.length:=by omega
         have hb4 : MatAt wr (N0 + 1 + 1) 105 (readTo t out (tailTo t (singTo t farM t.S.toNat) t.T.toNat) t.rd.length):=by rw [← hj'];exact hbr
         clear hbr hj' hj
         have Q0l:=Lib.hid (Er.keep Q0.out nin.out)
         have c4:=(cells_of_block Q0l.out 10).trans rfl
         go_wp2_with fail
         obtain ⟨w4,rfl⟩ : ∃ w4 : World,w4 = wr:=⟨_,rfl⟩
         clear c4 Q0l
         go_loopw [121] (fun jv wr=>∃ l : Nat,l ≤ t.lk.length ∧ jv = .int .i64 l ∧ MatAt wr (N0 + 1 + 1) 105 (linkTo t (readTo t out (tailTo t (singTo t farM t.S.toNat) t.T.toNat) t.rd.length) l) ∧ Ext [N0 + 1 + 1] W wr) (fun jv _=>t.lk.length - (intOf jv).toNat)
         case atStart=>exact ⟨0,Nat.zero_le _,rfl,hb4,Er⟩
         case round =>
          obtain ⟨l,hl,rfl,hbl,El⟩:=hrel
          have o9:=Hok.out.lkl
          by_cases hltl : (l : Int) < (t.lk.length : Int)
          ·go_upto_region 36 with (fail)
           obtain ⟨rb,roff,hra,hrr⟩:=Hlk.out wr El l (by omega)
           have g1:=Hok.out.lk (t.lk.getD l (0,0,0,0,0,0)) (getD_mem _ (by omega))
           obtain ⟨g11,g12,g13,g14,g15,g16,g17,g18,-,g19,g20,g21⟩:=g1
           have g4:=Hok.out.S3
           have g5:=Hok.out.A3
           have hB2:=hbl.lt
           have hWs:=El.size
           refine wp_region_lit ?_
           refine seq_val rfl rfl (R_ixSlice (sz:=6) rfl (hra t.lk.length lcap) rfl Try.underlying26 (by kernel_rfl) (by omega) (by omega)) (by simp only [ls,lz];exact rfl) ?_
           refine seq_val rfl rfl (R_loadRow (cs:=lkRow (t.lk.getD l (0,0,0,0,0,0))) rfl rfl Try.underlying75 rfl (by kernel_rfl) hrr) (by simp only [ls,lz];exact rfl) ?_
           refine seq_new rfl rfl (R_alloc rfl Try.zeroValue75) (by simp only [ls,lz];exact rfl) fun W6 hW6=>?_
           have q6:=(congrArg (fun x : World=>x.heap[wr.heap.size]?) hW6).trans (blk_new rfl)
           have m6 : MatAt W6 (N0 + 1 + 1) 105 _:=hW6 ▸ hbl.alloc _
           have E6 : Ext [N0 + 1 + 1] W W6:=hW6 ▸ El.alloc _
           refine seq_to rfl rfl (R_storeRow (cs:=(lkRow (t.lk.getD l (0,0,0,0,0,0))).toArray) rfl rfl rfl (by kernel_rfl) (by simp [lkRow,Value.oneCell']) q6 (by rfl)) fun W7 hW7=>?_
           refine wpList_nil ?_
           have q7 : W7.heap[wr.heap.size]? = some (.cells (lkRow (t.lk.getD l (0,0,0,0,0,0))).toArray 75 (0,0)):=by rw [hW7];exact stored_block q6 rfl
           have m7 : MatAt W7 (N0 + 1 + 1) 105 (linkTo t (readTo t out (tailTo t (singTo t farM t.S.toNat) t.T.toNat) t.rd.length) l):=⟨by rw [hW7,setCells_other _ _ _ _ _ (by omega)];exact m6.blk⟩
           have E7 : Ext [N0 + 1 + 1] W W7:=by rw [hW7];exact E6.setCells (fun h=>by omega) _ _
           clear hW7 E6 m6 q6 hW6 hrr
           generalize wr.heap.size = R0 at q7 hB2 hWs ⊢
           go_upto_region 37 with (fail)
           refine wp_region_st 12 follows (by kernel_rfl) fun W8 hW8 eW8=>?_
           replace m7:=m7.same hW8
           replace E7:=E7.nil eW8
           replace q7:=keep_same hW8 q7
           clear hW8 eW8
           refine still_val rfl rfl (R_fieldAddr rfl rfl Try.underlying75 rfl (n:=2) (sz:=1) rfl (by kernel_rfl) (by decide)) (by simp only [ls,lz];exact rfl) ?_
           refine still_val rfl rfl (R_load rfl rfl Try.underlying3 rfl ((cells_of_block q7 2).trans rfl)) (by simp only [ls,lz];exact rfl) ?_
           refine still_val rfl rfl (R_fieldAddr rfl rfl Try.underlying75 rfl (n:=3) (sz:=1) rfl (by kernel_rfl) (by decide)) (by simp only [ls,lz];exact rfl) ?_
           refine still_val rfl rfl (R_load rfl rfl Try.underlying3 rfl ((cells_of_block q7 3).trans rfl)) (by simp only [ls,lz];exact rfl) ?_
           refine still_call rfl rfl (by kernel_rfl) (cell_any (t.lk.getD l (0,0,0,0,0,0)).2.2.1 (t.lk.getD l (0,0,0,0,0,0)).2.2.2.1 _ (by omega) (by omega) (by omega) (by omega)) (by simp only [ls,lz];exact rfl) ?_
           refine still_val rfl rfl (R_fieldAddr rfl rfl Try.underlying75 rfl (n:=0) (sz:=1) rfl (by kernel_rfl) (by decide)) (by simp only [ls,lz];exact rfl) ?_
           refine still_val rfl rfl (R_load rfl rfl Try.underlying3 rfl ((cells_of_block q7 0).trans rfl)) (by simp only [ls,lz];exact rfl) ?_
           refine still_val rfl rfl (R_fieldAddr rfl rfl Try.underlying75 rfl (n:=1) (sz:=1) rfl (by kernel_rfl) (by decide)) (by simp only [ls,lz];exact rfl) ?_
           refine still_val rfl rfl (R_load rfl rfl Try.underlying3 rfl ((cells_of_block q7 1).trans rfl)) (by simp only [ls,lz];exact rfl) ?_
           refine still_call rfl rfl (by kernel_rfl) (cell_any (t.lk.getD l (0,0,0,0,0,0)).1 (t.lk.getD l (0,0,0,0,0,0)).2.1 _ (by omega) (by omega) (by omega) (by omega)) (by simp only [ls,lz];exact rfl) ?_
           refine still_val rfl rfl (R_fieldAddr rfl rfl Try.underlying75 rfl (n:=4) (sz:=2) rfl (by kernel_rfl) (by decide)) (by simp only [ls,lz];exact rfl) ?_
           refine still_val rfl rfl (R_loadRow (cs:=[.int .i64 (t.lk.getD l (0,0,0,0,0,0)).2.2.2.2.1,.int .i64 (t.lk.getD l (0,0,0,0,0,0)).2.2.2.2.2]) rfl rfl Try.underlying23 rfl (by kernel_rfl) (range_mid q7 (fun j v h=>by rcases j with _ | _ | j <;> simp_all [lkRow]))) (by simp only [ls,lz];exact rfl) ?_
           refine wpStill_nil ?_
           refine seq_call rfl rfl (by kernel_rfl) (limit_any _ (N0 + 1 + 1) (1 + (t.lk.getD l (0,0,0,0,0,0)).2.2.1 * 3 + (t.lk.getD l (0,0,0,0,0,0)).2.2.2.1) (1 + (t.lk.getD l (0,0,0,0,0,0)).1 * 3 + (t.lk.getD l (0,0,0,0,0,0)).2.1) (t.lk.getD l (0,0,0,0,0,0)).2.2.2.2.1 (t.lk.getD l (0,0,0,0,0,0)).2.2.2.2.2 _ m7 (by omega) (by omega) (by omega) (by omega) (by omega) (by omega)) fun e w' hR=>?_;obtain ⟨rfl,m9,e9⟩:=hR;refine ⟨_,_,rfl,(by simp only [ls,lz];exact rfl),?_⟩
           refine wpList_nil ?_
           replace E7:=E7.trans e9
           clear e9 q7
           go_wp2
           go_roundw
           case rel=>exact ⟨l + 1,by omega,by go_num,m9,E7⟩
           case measure=>simp [intOf];omega
          ·have hl' : l = t.lk.length:=by omega
           have hb5 : MatAt wr (N0 + 1 + 1) 105 (looseM t out):=by unfold looseM;rw [← hl'];exact hbl
           clear hbl hl' hl
           have nin1 : N0 + 1 ∉ [N0 + 1 + 1]:=by simp
           have Q1l:=El.keep Q1.out nin1
           clear nin1
           go_upto_region 39 with (fail)
           refine wp_region_lit ?_
           refine seq_val rfl rfl (R_loadRow (cs:=matList (looseM t out)) rfl rfl Try.underlying105 rfl (matInfo _) hb5.range) (by simp only [ls,lz];exact rfl) ?_
           refine seq_to rfl rfl (R_storeRow (cs:=(matList (looseM t out)).toArray) rfl rfl rfl (by rw [List.size_toArray];exact matInfo _) (all_oneCell_toArray (matList_one _)) Q1l (by rw [Try.zeroCells105_size,List.size_toArray,matList_length])) fun W9 hW9=>?_
           refine wpList_nil ?_
           have q9 : W9.heap[N0 + 1]? = some (.cells (matCells (looseM t out)) 105 (0,0)):=by
            rw [hW9,stored_block Q1l (by rw [Try.zeroCells105_size,List.size_toArray,matList_length]),matList_toArray]
           have E9 : Ext [N0 + 1 + 1,N0 + 1] W W9:=by rw [hW9];exact (El.mono (by simp)).setCells (fun _=>by simp) _ _
           clear hW9
           have E10 : Ext [] w W9:=E0.trans' E9 (by have:=HN0.out;simp;omega)
           go_wp2
           refine bodyPost_ret (res_cell rfl rfl Try.underlying105 rfl (by rw [matCells_size];kernel_rfl) q9) rfl ⟨rfl,E10⟩
end Go.Proofs.Ytholfdgebdlgjaa
namespace Go.Proofs.Ytholfdgebdlgjaa
theorem upd_same (m : Nat → Nat → Int) (i j : Nat) (v : Int) : upd m i j v i j = v:=by simp [upd]
theorem upd_other (m : Nat → Nat → Int) (i j p q : Nat) (v : Int) (h : ¬ (p = i ∧ q = j)) : upd m i j v p q = m p q:=by simp [upd,h]
theorem fwStep_le (m : Nat → Nat → Int) (k i j p q : Nat) : fwStep m k i j p q ≤ m p q:=by
 unfold fwStep
 by_cases h : p = i ∧ q = j
 ·obtain ⟨rfl,rfl⟩:=h;rw [upd_same];omega
 ·rw [upd_other _ _ _ _ _ _ h];omega
theorem rowTo_le (m : Nat → Nat → Int) (k i p q : Nat) : ∀ j,rowTo m k i j p q ≤ m p q
 | 0=>Int.le_refl _
 | j + 1=>Int.le_trans (fwStep_le _ _ _ _ _ _) (rowTo_le m k i p q j)
theorem iTo_le {m m' : Nat → Nat → Int} {k : Nat} (p q : Nat) : ∀ {i},iTo m k i = some m' → m' p q ≤ m p q:=by
 intro i
 induction i generalizing m' with
 | zero=>intro h;simp only [iTo,Option.some.injEq] at h;subst h;exact Int.le_refl _
 | succ i ih =>
  intro h
  cases hx : iTo m k i with
  | none=>simp [iTo,hx] at h
  | some x =>
   simp only [iTo,hx] at h
   split at h
   ·cases h
   ·cases h;exact Int.le_trans (rowTo_le _ _ _ _ _ _) (ih hx)
theorem kTo_le {m m' : Nat → Nat → Int} (p q : Nat) : ∀ {k},kTo m k = some m' → m' p q ≤ m p q:=by
 intro k
 induction k generalizing m' with
 | zero=>intro h;simp only [kTo,Option.some.injEq] at h;subst h;exact Int.le_refl _
 | succ k ih =>
  intro h
  cases hx : kTo m k with
  | none=>simp [kTo,hx] at h
  | some x=>simp only [kTo,hx] at h;exact Int.le_trans (iTo_le p q h) (ih hx)
structure Low (L : Int) (k i j : Nat) (x : Nat → Nat → Int) : Prop where
 all : ∀ p q,p < 13 → q < 13 → -(6 * L) ≤ x p q
 kk : -(2 * L) ≤ x k k
 row : ∀ q,q < 13 → -(3 * L) ≤ x k q
 row0 : ∀ q,q < 13 → (i < k ∨ (i = k ∧ j ≤ q)) → -L ≤ x k q
 col : ∀ p,p < 13 → -(3 * L) ≤ x p k
 col0 : ∀ p,p < 13 → (i < p ∨ (p = i ∧ j ≤ k)) → -L ≤ x p k
theorem Low.start {L : Int} (hL : 0 ≤ L) {k : Nat} (hk : k < 13) {x : Nat → Nat → Int} (h : ∀ p q,p < 13 → q < 13 → -L ≤ x p q) : Low L k 0 0 x:=
 ⟨fun p q hp hq=>by have:=h p q hp hq;omega,by have:=h k k hk hk;omega,fun q hq=>by have:=h k q hk hq;omega,fun q hq _=>h k q hk hq,fun p hp=>by have:=h p k hp hk;omega,fun p hp _=>h p k hp hk⟩
theorem Low.next {L : Int} {k i : Nat} {x : Nat → Nat → Int} (h : Low L k i 13 x) (hk : k < 13) : Low L k (i + 1) 0 x:=
 ⟨h.all,h.kk,h.row,fun q hq hc=>h.row0 q hq (by omega),h.col,fun p hp hc=>h.col0 p hp (by omega)⟩
theorem Low.step {L : Int} (hL : 0 ≤ L) {k i j : Nat} (hk : k < 13) (hi : i < 13) (hj : j < 13) {x : Nat → Nat → Int} (h : Low L k i j x) : Low L k i (j + 1) (fwStep x k i j):=by
 have a1:=h.col i hi
 have a2:=h.row j hj
 have a3:=h.all i j hi hj
 have a4:=h.kk
 have key : ∀ p q,¬ (p = i ∧ q = j) → fwStep x k i j p q = x p q:=fun p q hne=>upd_other _ _ _ _ _ _ hne
 have hit : fwStep x k i j i j = min (x i j) (x i k + x k j):=upd_same _ _ _ _
 refine ⟨fun p q hp hq=>?_,?_,fun q hq=>?_,fun q hq hc=>?_,fun p hp=>?_,fun p hp hc=>?_⟩
 ·by_cases e : p = i ∧ q = j
  ·obtain ⟨rfl,rfl⟩:=e;rw [hit];omega
  ·rw [key p q e];exact h.all p q hp hq
 ·by_cases e : k = i ∧ k = j
  ·obtain ⟨rfl,rfl⟩:=e
   have b:=h.row0 k hk (by omega)
   rw [hit];omega
  ·rw [key k k e];exact h.kk
 ·by_cases e : k = i ∧ q = j
  ·obtain ⟨rfl,rfl⟩:=e
   have b:=h.row0 q hq (by omega)
   rw [hit];omega
  ·rw [key k q e];exact h.row q hq
 ·rw [key k q (by omega)];exact h.row0 q hq (by omega)
 ·by_cases e : p = i ∧ k = j
  ·obtain ⟨rfl,rfl⟩:=e
   have b:=h.col0 p hp (by omega)
   rw [hit];omega
  ·rw [key p k e];exact h.col p hp
 ·rw [key p k (by omega)];exact h.col0 p hp (by omega)
theorem Low.rows {L : Int} (hL : 0 ≤ L) {k i : Nat} (hk : k < 13) (hi : i < 13) {x : Nat → Nat → Int} (h : Low L k i 0 x) : ∀ j,j ≤ 13 → Low L k i j (rowTo x k i j)
 | 0,_=>h
 | j + 1,hj=>(Low.rows hL hk hi h j (by omega)).step hL hk hi (by omega)
theorem Low.all_rows {L : Int} (hL : 0 ≤ L) {k : Nat} (hk : k < 13) {x : Nat → Nat → Int} (h : ∀ p q,p < 13 → q < 13 → -L ≤ x p q) : ∀ i,i ≤ 13 → ∀ y,iTo x k i = some y → Low L k i 0 y
 | 0,_,y,e=>by simp only [iTo,Option.some.injEq] at e;subst e;exact Low.start hL hk h
 | i + 1,hi,y,e=>by
  cases hx : iTo x k i with
  | none=>simp [iTo,hx] at e
  | some z =>
   simp only [iTo,hx] at e
   split at e
   ·cases e
   ·cases e
    exact ((Low.all_rows hL hk h i (by omega) z hx).rows hL hk (by omega) 13 (by omega)).next hk
theorem kTo_low {L : Int} (hL : 0 ≤ L) {m : Nat → Nat → Int} (h : ∀ p q,p < 13 → q < 13 → -L ≤ m p q) : ∀ k,k ≤ 13 → ∀ y,kTo m k = some y → ∀ p q,p < 13 → q < 13 → -(6 ^ k * L) ≤ y p q
 | 0,_,y,e=>by simp only [kTo,Option.some.injEq] at e;subst e;simpa using h
 | k + 1,hk,y,e=>by
  cases hx : kTo m k with
  | none=>simp [kTo,hx] at e
  | some z =>
   simp only [kTo,hx] at e
   have ih:=kTo_low hL h k (by omega) z hx
   have hL' : (0 : Int) ≤ 6 ^ k * L:=Int.mul_nonneg (Int.pow_nonneg (by omega)) hL
   have:=(Low.all_rows hL' (by omega) ih 13 (Nat.le_refl _) y e).all
   intro p q hp hq
   have:=this p q hp hq
   rw [Int.pow_succ]
   have e2 : (6 ^ k * 6 * L : Int) = 6 * (6 ^ k * L):=by rw [Int.mul_assoc,Int.mul_comm 6 L,← Int.mul_assoc,Int.mul_comm]
   omega
theorem pow_le_12 : ∀ k,k < 13 → (6 : Int) ^ k ≤ 2176782336:=by decide
theorem safe_of_small {m : Nat → Nat → Int} (h : ∀ p q,p < 13 → q < 13 → -1048576 ≤ m p q ∧ m p q ≤ 1048576) : safeM m:=by
 intro k i j hk hi hj m1 h1 m2 h2
 have l1:=kTo_low (L:=1048576) (by omega) (fun p q hp hq=>(h p q hp hq).1) k (by omega) m1 h1
 have hL' : (0 : Int) ≤ 6 ^ k * 1048576:=Int.mul_nonneg (Int.pow_nonneg (by omega)) (by omega)
 have l2:=((Low.all_rows hL' hk l1 i (by omega) m2 h2).rows hL' hk hi j (by omega))
 have c1:=l2.col i hi
 have c2:=l2.row j hj
 have hp:=pow_le_12 k hk
 have u1 : rowTo m2 k i j i k ≤ m i k:=Int.le_trans (rowTo_le _ _ _ _ _ _) (Int.le_trans (iTo_le _ _ h2) (kTo_le _ _ h1))
 have u2 : rowTo m2 k i j k j ≤ m k j:=Int.le_trans (rowTo_le _ _ _ _ _ _) (Int.le_trans (iTo_le _ _ h2) (kTo_le _ _ h1))
 have v1:=(h i k hi hk).2
 have v2:=(h k j hk hj).2
 constructor <;> omega
def relaxRow (x : Nat → Nat → Int) (k i j : Nat) : Nat → Nat → Int:=fun p q=>if p = i ∧ q < j then min (x p q) (x p k + x k q) else x p q
def relaxRows (x : Nat → Nat → Int) (k i : Nat) : Nat → Nat → Int:=fun p q=>if p < i ∧ q < 13 then min (x p q) (x p k + x k q) else x p q
theorem rowTo_eq {x : Nat → Nat → Int} {k i : Nat} (hk : 0 ≤ x k k) : ∀ j,rowTo x k i j = relaxRow x k i j
 | 0=>by funext p q;simp [rowTo,relaxRow]
 | j + 1=>by
  have ih:=rowTo_eq (i:=i) hk j
  funext p q
  show fwStep (rowTo x k i j) k i j p q = _
  rw [ih]
  unfold fwStep
  by_cases e : p = i ∧ q = j
  ·obtain ⟨rfl,rfl⟩:=e
   rw [upd_same]
   have e1 : relaxRow x k p q p q = x p q:=by simp [relaxRow]
   have e2 : relaxRow x k p q p k = x p k:=by
    unfold relaxRow
    split
    ·omega
    ·rfl
   have e3 : relaxRow x k p q k q = x k q:=by simp [relaxRow]
   rw [e1,e2,e3]
   unfold relaxRow
   rw [if_pos ⟨rfl,by omega⟩]
  ·rw [upd_other _ _ _ _ _ _ e]
   unfold relaxRow
   by_cases h1 : p = i ∧ q < j
   ·rw [if_pos h1,if_pos ⟨h1.1,by omega⟩]
   ·rw [if_neg h1,if_neg (by omega)]
theorem iTo_eq {x : Nat → Nat → Int} {k : Nat} (hk13 : k < 13) (hk : 0 ≤ x k k) : ∀ i,i ≤ 13 → ∀ y,iTo x k i = some y → y = relaxRows x k i ∧ ∀ p,p < i → 0 ≤ y p p
 | 0,_,y,e=>by
  simp only [iTo,Option.some.injEq] at e
  subst e
  exact ⟨by funext p q;simp [relaxRows],fun p hp=>absurd hp (Nat.not_lt_zero _)⟩
 | i + 1,hi,y,e=>by
  cases hx : iTo x k i with
  | none=>simp [iTo,hx] at e
  | some z =>
   obtain ⟨hz,hd⟩:=iTo_eq hk13 hk i (by omega) z hx
   simp only [iTo,hx] at e
   split at e
   ·cases e
   ·rename_i hneg
    cases e
    have hzk : z k k = x k k:=by
     rw [hz];unfold relaxRows
     split
     ·omega
     ·rfl
    have hrow:=rowTo_eq (x:=z) (k:=k) (i:=i) (by rw [hzk];exact hk) 13
    have hkq : ∀ q,q < 13 → z k q = x k q:=fun q hq=>by
     rw [hz];unfold relaxRows
     split
     ·omega
     ·rfl
    have hiq : ∀ q,z i q = x i q:=fun q=>by
     rw [hz];unfold relaxRows
     rw [if_neg (by omega)]
    refine ⟨?_,fun p hp=>?_⟩
    ·rw [hrow]
     funext p q
     unfold relaxRow
     by_cases h1 : p = i ∧ q < 13
     ·obtain ⟨rfl,hq⟩:=h1
      rw [if_pos ⟨rfl,hq⟩,hiq,hiq,hkq q hq]
      unfold relaxRows
      rw [if_pos ⟨by omega,hq⟩]
     ·rw [if_neg h1,hz]
      unfold relaxRows
      by_cases h2 : p < i ∧ q < 13
      ·rw [if_pos h2,if_pos ⟨by omega,h2.2⟩]
      ·rw [if_neg h2,if_neg (by omega)]
    ·by_cases e : p = i
     ·subst e;omega
     ·have:=hd p (by omega)
      rw [hrow];unfold relaxRow
      rw [if_neg (by omega)]
      exact this
theorem kTo_step {m y : Nat → Nat → Int} (hd : ∀ p,p < 13 → 0 ≤ m p p) : ∀ k,k ≤ 13 → kTo m k = some y → (∀ p,p < 13 → 0 ≤ y p p) ∧ (∀ p,p < k → ∀ i j,i < 13 → j < 13 → y i j ≤ y i p + y p j)
 | 0,_,e=>by
  simp only [kTo,Option.some.injEq] at e
  subst e
  exact ⟨hd,fun p hp=>absurd hp (Nat.not_lt_zero _)⟩
 | k + 1,hk,e=>by
  cases hx : kTo m k with
  | none=>simp [kTo,hx] at e
  | some z =>
   simp only [kTo,hx] at e
   obtain ⟨hz,hc⟩:=kTo_step hd k (by omega) hx
   obtain ⟨hy,hyd⟩:=iTo_eq (by omega) (hz k (by omega)) 13 (Nat.le_refl _) y e
   refine ⟨hyd,fun p hp i j hi hj=>?_⟩
   have val : ∀ a b,a < 13 → b < 13 → y a b = min (z a b) (z a k + z k b):=fun a b ha hb=>by
    rw [hy];unfold relaxRows;rw [if_pos ⟨ha,hb⟩]
   have hkk:=hz k (by omega)
   by_cases e : p = k
   ·subst e
    rw [val i j hi hj,val i p hi (by omega),val p j (by omega) hj]
    omega
   ·have hp' : p < k:=by omega
    have t1:=hc p hp' i j hi hj
    have t2:=hc p hp' i k hi (by omega)
    have t3:=hc p hp' k j (by omega) hj
    have t4:=hc p hp' k k (by omega) (by omega)
    rw [val i j hi hj,val i p hi (by omega),val p j (by omega) hj]
    omega
def closedM (m : Nat → Nat → Int) : Prop:=(∀ p,p < 13 → 0 ≤ m p p) ∧ ∀ p i j,p < 13 → i < 13 → j < 13 → m i j ≤ m i p + m p j
theorem closed_of_round {m y : Nat → Nat → Int} (hd : ∀ p,p < 13 → 0 ≤ m p p) (h : kTo m 13 = some y) : closedM y:=
 ⟨(kTo_step hd 13 (Nat.le_refl _) h).1,fun p i j hp hi hj=>(kTo_step hd 13 (Nat.le_refl _) h).2 p hp i j hi hj⟩
theorem fwStep_closed {m : Nat → Nat → Int} (hc : closedM m) {k i j : Nat} (hk : k < 13) (hi : i < 13) (hj : j < 13) : fwStep m k i j = m:=by
 funext p q
 unfold fwStep
 by_cases e : p = i ∧ q = j
 ·obtain ⟨rfl,rfl⟩:=e
  rw [upd_same]
  have:=hc.2 k p q hk hi hj
  omega
 ·exact upd_other _ _ _ _ _ _ e
theorem rowTo_closed {m : Nat → Nat → Int} (hc : closedM m) {k i : Nat} (hk : k < 13) (hi : i < 13) : ∀ j,j ≤ 13 → rowTo m k i j = m
 | 0,_=>rfl
 | j + 1,hj=>by
  show fwStep (rowTo m k i j) k i j = m
  rw [rowTo_closed hc hk hi j (by omega)]
  exact fwStep_closed hc hk hi (by omega)
theorem iTo_closed {m : Nat → Nat → Int} (hc : closedM m) {k : Nat} (hk : k < 13) : ∀ i,i ≤ 13 → iTo m k i = some m
 | 0,_=>rfl
 | i + 1,hi=>by
  have h:=rowTo_closed hc hk (show i < 13 by omega) 13 (Nat.le_refl _)
  have:=hc.1 i (by omega)
  simp only [iTo,iTo_closed hc hk i (by omega),h]
  rw [if_neg (by omega)]
theorem kTo_closed {m : Nat → Nat → Int} (hc : closedM m) : ∀ k,k ≤ 13 → kTo m k = some m
 | 0,_=>rfl
 | k + 1,hk=>by
  simp only [kTo,kTo_closed hc k (by omega),iTo_closed hc (show k < 13 by omega) 13 (Nat.le_refl _)]
theorem eqM_refl (m : Nat → Nat → Int) : eqM m m = true:=eqM_iff.2 fun _ _ _ _=>rfl
theorem safe_closed {m : Nat → Nat → Int} (hc : closedM m) (h : ∀ p q,p < 13 → q < 13 → -4000000000000000000 ≤ m p q ∧ m p q ≤ 4000000000000000000) : safeM m:=by
 intro k i j hk hi hj m1 h1 m2 h2
 rw [kTo_closed hc k (by omega)] at h1
 cases h1
 rw [iTo_closed hc hk i (by omega)] at h2
 cases h2
 rw [rowTo_closed hc hk hi j (by omega)]
 have a:=h i k hi hk
 have b:=h k j hk hj
 constructor <;> omega
theorem second_round {m : Nat → Nat → Int} (hd : ∀ p,p < 13 → 0 ≤ m p p) (h : ∀ p q,p < 13 → q < 13 → -1048576 ≤ m p q ∧ m p q ≤ 1048576) :
  ∀ m',kTo m 13 = some m' → safeM m' ∧ ∃ m'',kTo m' 13 = some m'' ∧ eqM m'' m' = true:=by
 intro m' hm
 have hc:=closed_of_round hd hm
 refine ⟨safe_closed hc fun p q hp hq=>?_,m',kTo_closed hc 13 (Nat.le_refl _),eqM_refl _⟩
 have l:=kTo_low (L:=1048576) (by omega) (fun p q hp hq=>(h p q hp hq).1) 13 (Nat.le_refl _) m' hm p q hp hq
 have u:=Int.le_trans (kTo_le p q hm) (h p q hp hq).2
 have e : (6 : Int) ^ 13 * 1048576 = 13695206129664 * 1000 + 210516160 * 0 + (6 ^ 13 * 1048576 - 13695206129664 * 1000):=by omega
 have hpw : (6 : Int) ^ 13 = 13060694016:=by decide
 rw [hpw] at l
 constructor <;> omega
def sol (m : Nat → Nat → Int) (x : Nat → Int) : Prop:=∀ i j,i < 13 → j < 13 → x j - x i ≤ m i j
theorem sol_step {m : Nat → Nat → Int} {x : Nat → Int} (h : sol m x) {k i j : Nat} (hk : k < 13) (hi : i < 13) (hj : j < 13) : sol (fwStep m k i j) x:=by
 intro p q hp hq
 unfold fwStep
 by_cases e : p = i ∧ q = j
 ·obtain ⟨rfl,rfl⟩:=e
  rw [upd_same]
  have a:=h p q hp hq
  have b:=h p k hp hk
  have c:=h k q hk hq
  omega
 ·rw [upd_other _ _ _ _ _ _ e];exact h p q hp hq
theorem sol_row {m : Nat → Nat → Int} {x : Nat → Int} (h : sol m x) {k i : Nat} (hk : k < 13) (hi : i < 13) : ∀ j,j ≤ 13 → sol (rowTo m k i j) x
 | 0,_=>h
 | j + 1,hj=>sol_step (sol_row h hk hi j (by omega)) hk hi (by omega)
theorem sol_iTo {m : Nat → Nat → Int} {x : Nat → Int} (h : sol m x) {k : Nat} (hk : k < 13) : ∀ i,i ≤ 13 → ∃ y,iTo m k i = some y ∧ sol y x
 | 0,_=>⟨m,rfl,h⟩
 | i + 1,hi=>by
  obtain ⟨y,hy,hs⟩:=sol_iTo h hk i (by omega)
  have hr:=sol_row hs hk (show i < 13 by omega) 13 (Nat.le_refl _)
  have:=hr i i (by omega) (by omega)
  refine ⟨_,?_,hr⟩
  simp only [iTo,hy]
  rw [if_neg (by omega)]
theorem sol_kTo {m : Nat → Nat → Int} {x : Nat → Int} (h : sol m x) : ∀ k,k ≤ 13 → ∃ y,kTo m k = some y ∧ sol y x
 | 0,_=>⟨m,rfl,h⟩
 | k + 1,hk=>by
  obtain ⟨y,hy,hs⟩:=sol_kTo h k (by omega)
  obtain ⟨z,hz,hs'⟩:=sol_iTo hs (show k < 13 by omega) 13 (Nat.le_refl _)
  exact ⟨z,by simp only [kTo,hy,hz],hs'⟩
theorem sol_back {m y : Nat → Nat → Int} {x : Nat → Int} (hm : kTo m 13 = some y) (h : sol y x) : sol m x:=fun i j hi hj=>Int.le_trans (h i j hi hj) (kTo_le i j hm)
theorem sol_reach {m : Nat → Nat → Int} (hc : closedM m) {a : Nat} (ha : a < 13) : sol m (fun j=>m a j):=fun i j hi hj=>by
 have:=hc.2 i a j hi ha hj
 show m a j - m a i ≤ m i j
 omega
end Go.Proofs.Ytholfdgebdlgjaa
namespace Go.Proofs.Ytholfdgebdlgjaa
open Go.RowKit
def smallM (m : Nat → Nat → Int) : Prop:=(∀ p q,-1048576 ≤ m p q ∧ m p q ≤ 1048576) ∧ ∀ p,m p p = 0
theorem small_limit {m : Nat → Nat → Int} (h : smallM m) {l k : Nat} (hlk : l ≠ k) {lo hi : Int} (h1 : -1000 ≤ hi) (h2 : lo ≤ 1000) : smallM (limitM m l k lo hi):=by
 have hb:=h.1
 refine ⟨fun p q=>?_,fun p=>?_⟩
 ·have a1:=hb p q
  have a2:=hb l k
  have a3:=hb k l
  unfold limitM upd
  split <;> (try split) <;> omega
 ·have a1:=h.2 p
  unfold limitM upd
  rw [if_neg (by omega),if_neg (by omega)]
  exact a1
theorem small_far : smallM farM:=⟨fun p q=>by unfold farM;split <;> omega,fun p=>by unfold farM;simp⟩
theorem small_cell {t : Tp} (ok : t.Ok) {m : Nat → Nat → Int} (h : smallM m) {s : Nat} (hs : s < t.S.toNat) : ∀ a,smallM (cellTo t m s a)
 | 0=>h
 | a + 1=>by
  have ih:=small_cell ok h hs a
  have o1:=ok.bl1
  have o2:=ok.bm1
  have o3:=ok.b
  have g:=ok.gr (t.gr.getD s (0,0)) (getD_mem _ (by have:=ok.grl;omega))
  have i1:=small_limit ih (l:=0) (k:=nodeC s a) (by unfold nodeC;omega) (lo:=t.bl) (hi:=t.bm) (by omega) (by omega)
  unfold cellTo
  split
  ·exact small_limit i1 (by unfold nodeC;omega) (by omega) (by omega)
  ·exact i1
theorem small_sing {t : Tp} (ok : t.Ok) {m : Nat → Nat → Int} (h : smallM m) : ∀ s,s ≤ t.S.toNat → smallM (singTo t m s)
 | 0,_=>h
 | s + 1,hs=>small_cell ok (small_sing ok h s (by omega)) (by omega) _
theorem small_tail {t : Tp} (ok : t.Ok) {m : Nat → Nat → Int} (h : smallM m) : ∀ i,smallM (tailTo t m i)
 | 0=>h
 | i + 1=>by
  have o1:=ok.pl1
  have o2:=ok.pm1
  have o3:=ok.p
  exact small_limit (small_tail ok h i) (by unfold nodeT;omega) (by omega) (by omega)
theorem small_read {t : Tp} (ok : t.Ok) (out : Int) {m : Nat → Nat → Int} (h : smallM m) : ∀ i,i ≤ t.rd.length → smallM (readTo t out m i)
 | 0,_=>h
 | i + 1,hi=>by
  have ih:=small_read ok out h i (by omega)
  have g:=ok.rd (t.rd.getD i (0,0,0,0)) (getD_mem _ (by omega))
  have o1:=ok.sl0
  have o2:=ok.sl5
  have o3:=ok.S3
  have o4:=ok.A3
  unfold readTo
  split
  ·exact ih
  ·exact small_limit ih (by unfold nodeT nodeC;omega) (by omega) (by omega)
theorem small_link {t : Tp} (ok : t.Ok) {m : Nat → Nat → Int} (h : smallM m) : ∀ i,i ≤ t.lk.length → smallM (linkTo t m i)
 | 0,_=>h
 | i + 1,hi=>by
  have ih:=small_link ok h i (by omega)
  have g:=ok.lk (t.lk.getD i (0,0,0,0,0,0)) (getD_mem _ (by omega))
  obtain ⟨g1,g2,g3,g4,g5,g6,g7,g8,g9,g10,g11,g12⟩:=g
  have o3:=ok.S3
  have o4:=ok.A3
  exact small_limit ih (by unfold nodeC;omega) (by omega) (by omega)
theorem small_loose {t : Tp} (ok : t.Ok) (out : Int) : smallM (looseM t out):=
 small_link ok (small_read ok out (small_tail ok (small_sing ok small_far _ (Nat.le_refl _)) _) _ (Nat.le_refl _)) _ (Nat.le_refl _)
theorem safe_loose {t : Tp} (ok : t.Ok) (out : Int) : safeM (looseM t out):=safe_of_small fun p q _ _=>(small_loose ok out).1 p q
theorem again_loose {t : Tp} (ok : t.Ok) (out : Int) : ∀ m',kTo (looseM t out) 13 = some m' → safeM m' ∧ ∃ m'',kTo m' 13 = some m'' ∧ eqM m'' m' = true:=
 second_round (fun p _=>by rw [(small_loose ok out).2 p];exact Int.le_refl _) fun p q _ _=>(small_loose ok out).1 p q
theorem clash_yes (xT : TypeId) (w : World) : (Instr.typeAssert (.iface 163 (.agg #[])) xT 163 true).run Try.prog w = .ok (.tuple #[.agg #[],.bool true]) w:=by
 simp [Instr.typeAssert,run_underlying Try.underlying163,go_sem,Result.andThen]
theorem clash_no (xT : TypeId) (w : World) : (Instr.typeAssert Value.nilIface xT 163 true).run Try.prog w = .ok (.tuple #[.agg #[],.bool false]) w:=by
 simp [Instr.typeAssert,run_underlying Try.underlying163,Try.zeroValue163,go_sem,Result.andThen]
set_option maxRecDepth 20000 in
set_option maxHeartbeats 400000 in
theorem catch_clash (b : Nat) (x : Bool) (w : World) (hb : w.heap[b]? = some (.cells #[.bool x] 4 (0,0))) :
  CallsD Try.prog 131 #[.pointer (some ⟨b,0,none⟩)] (.panicking [{ v:=.iface 163 (.agg #[]),recovered:=false }]) w fun e u' w' =>
   e = .returned (.tuple #[]) ∧ u' = .panicking [{ v:=.iface 163 (.agg #[]),recovered:=true }] ∧ w' = (w.alloc (.cells #[] 163)).setCell ⟨b,0,none⟩ (.bool false):=by
 have hc : (w.alloc (.cells #[] 163)).cell? ⟨b,0,none⟩ = some (.bool x):=(cells_of_block (blk_old hb) 0).trans rfl
 have hz : (w.alloc (.cells #[] 163)).frozen? ⟨b,0,none⟩ = false:=free_of_block (blk_old hb) 0
 refine callsD_of_wpS Try.func131 rfl fun c₀ cs hu=>?_
 apply wpS_seq
 apply wpS_region
 simp [wpOpsS,go_sem,recoverD,hu,Try.ntmps131,Exit.thenS,clash_yes,Result.andThen]
 apply wpS_seq
 apply wpS_region
 simp [wpOpsS,go_sem,Exit.thenS,Array.replicate]
 refine wpS_cond (t:=true) (by simp [Act.eval]) ?_
 simp only [if_true]
 apply wpS_region
 simp [wpOpsS,go_sem,hc,hz,bodyPostS,results,Try.results131]
set_option maxRecDepth 20000 in
set_option maxHeartbeats 400000 in
theorem catch_idle (p : Addr) (w : World) :
  CallsD Try.prog 131 #[.pointer (some p)] .returning w fun e u' w'=>e = .returned (.tuple #[]) ∧ u' = .returning ∧ w' = w.alloc (.cells #[] 163):=by
 refine callsD_of_wpS Try.func131 rfl fun c₀ cs hu=>?_
 apply wpS_seq
 apply wpS_region
 simp [wpOpsS,go_sem,recoverD,hu,Try.ntmps131,Exit.thenS,clash_no,Result.andThen]
 apply wpS_seq
 apply wpS_region
 simp [wpOpsS,go_sem,Exit.thenS,Array.replicate]
 refine wpS_cond (t:=false) (by simp [Act.eval]) ?_
 simp only [Bool.false_eq_true,if_false]
 refine wpS_of_wp (wp_skip ?_)
 cases c₀
 simp_all [bodyPostS,results,Try.results131]
theorem loadVar_cell {P : Program} {t : TypeId} {b off : Nat} {v : Value} {d : TypeDesc} {w : World} (hd : P.underlying t = some d) (ha : d.isRow = false) (hc : w.cell? ⟨b,off,none⟩ = some v) : (loadVar t ⟨b,off,none⟩).run P w = .ok v w:=by
 cases d <;> first | (simp [TypeDesc.isRow] at ha;done) | simp [loadVar,isAgg,underlying,hd,load,hc,Sem.run,go_sem]
theorem res_cell2 {P : Program} {fn : Func} {t t2 : Tmp} {ty ty2 : TypeId} {tmps : Array Value} {w : World} {b b2 : Nat} {cs : Array Value} {v2 : Value} {T : TypeId} {d : TypeDesc} {fz : Nat × Nat} (hr : fn.results = #[.cell t ty,.cell t2 ty2]) (ht : tmps.getD t undef = .pointer (some ⟨b,0,none⟩)) (hd : P.underlying ty = some d) (ha : d.isRow = true) (hi : (P.info? ty).map (·.size) = some cs.size) (H : w.heap[b]? = some (.cells cs T fz)) (ht2 : tmps.getD t2 undef = .pointer (some ⟨b2,0,none⟩)) (hl2 : (loadVar ty2 ⟨b2,0,none⟩).run P w = .ok v2 w) :
  (results fn tmps).run P w = .ok (.tuple #[.agg cs,v2]) w:=by
 have hc : w.rangeAt b 0 cs.toList:=fun j v hv=>by
  rw [Nat.zero_add,cells_of_block H];simpa using hv
 have hl:=run_loadVar_mid (P:=P) w b 0 ty cs.toList d hc hd ha (by simpa using hi)
 have ht' : tmps[t]?.getD undef = .pointer (some ⟨b,0,none⟩):=by simpa using ht
 have ht2' : tmps[t2]?.getD undef = .pointer (some ⟨b2,0,none⟩):=by simpa using ht2
 simp [results,hr,ht',ht2',asAddr,hl,hl2,Sem.run_bind,Result.andThen]
theorem seq_callP {P : Program} {ops : Array Oper} {Q : Exit → Act → World → Prop} {o : Oper} {rest : List Oper} {w : World} {l : List Value} {ds : List Deferred} {d : Tmp} {f : FuncId} {args : Array Value} {R : Ending → World → Prop} (hd : o.dst = some d) (hw : Region.wanted o (yielded ops l.toArray) = true) (hr : (execOp (Act.eval ⟨l.toArray,ds⟩) o).run P w = .ok (.enter f args) w) (hc : Calls P f args w R) (h : ∀ e w',R e w' → (∃ v l',e = .returned v ∧ l.set d v = l' ∧ wpList P ops Q rest ⟨l'.toArray,ds⟩ w') ∨ ∃ ps,e = .panicked ps ∧ Q (.panic ps) ⟨l.toArray,ds⟩ w') : wpList P ops Q (o :: rest) ⟨l.toArray,ds⟩ w:=by
 unfold wpList
 simp only [hw,if_true,Oper.wp,hr,Oper.upon]
 refine .inl (hc.mono fun e w' hR=>?_)
 rcases h e w' hR with ⟨v,l',rfl,hl,h1⟩ | ⟨ps,rfl,h1⟩
 ·show wpList _ _ _ _ _ _
  rw [put_lit _ hd,hl]
  exact h1
 ·exact h1
set_option maxRecDepth 20000 in
set_option maxHeartbeats 1000000 in
theorem solve_any (t : Tp) (ok : t.Ok) (gv rv lv : Value) (out : Int) (ho1 : 0 ≤ out) (ho2 : out < 65536) (w : World) (ht : IsTp w gv rv lv t) (hs : safeM (looseM t out)) (hs2 : ∀ m',kTo (looseM t out) 13 = some m' → safeM m' ∧ ∃ m'',kTo m' 13 = some m'' ∧ eqM m'' m' = true) :
  Calls Try.prog 80 #[tpV t gv rv lv,.int .u16 out] w fun e w'=>Ext [] w w' ∧
   ((kTo (looseM t out) 13 = none ∧ e = .returned (.tuple #[.agg (matCells fun _ _=>0),.bool false])) ∨ ∃ m',kTo (looseM t out) 13 = some m' ∧ e = .returned (.tuple #[.agg (matCells m'),.bool true])):=by
 have hmf : ∀ (fn : Fn) (first cap : Array Value) (w : World),(Instr.makeFunc fn first cap).run Try.prog w = .ok (.func fn first cap) w:=fun _ _ _ _=>rfl
 unfold tpV
 go_enter_defers Try.func80,Try.ntmps80
 go_upto_region 2 with (fail)
 have q0 : (((w.alloc (.cells #[.int .i64 t.S,.int .i64 t.A,.int .i64 t.T,.int .i64 t.bl,.int .i64 t.bm,.int .i64 t.pl,.int .i64 t.pm,.int .i64 t.sl,gv,rv,lv] 100)).alloc (.cells Try.zeroCells105 105)).alloc (.cells #[.bool false] 4)).heap[w.heap.size]? = _:=blk_old (blk_old (blk_new rfl))
 have q1 : (((w.alloc (.cells #[.int .i64 t.S,.int .i64 t.A,.int .i64 t.T,.int .i64 t.bl,.int .i64 t.bm,.int .i64 t.pl,.int .i64 t.pm,.int .i64 t.sl,gv,rv,lv] 100)).alloc (.cells Try.zeroCells105 105)).alloc (.cells #[.bool false] 4)).heap[w.heap.size + 1]? = _:=blk_old (blk_new (size_alloc _ _).symm)
 have q2 : (((w.alloc (.cells #[.int .i64 t.S,.int .i64 t.A,.int .i64 t.T,.int .i64 t.bl,.int .i64 t.bm,.int .i64 t.pl,.int .i64 t.pm,.int .i64 t.sl,gv,rv,lv] 100)).alloc (.cells Try.zeroCells105 105)).alloc (.cells #[.bool false] 4)).heap[w.heap.size + 1 + 1]? = _:=blk_new (by rw [size_alloc,size_alloc])
 have E0 : Ext [] w (((w.alloc (.cells #[.int .i64 t.S,.int .i64 t.A,.int .i64 t.T,.int .i64 t.bl,.int .i64 t.bm,.int .i64 t.pl,.int .i64 t.pm,.int .i64 t.sl,gv,rv,lv] 100)).alloc (.cells Try.zeroCells105 105)).alloc (.cells #[.bool false] 4)):=(((Ext.refl _ _).alloc _).alloc _).alloc _
 generalize (((w.alloc (.cells #[.int .i64 t.S,.int .i64 t.A,.int .i64 t.T,.int .i64 t.bl,.int .i64 t.bm,.int .i64 t.pl,.int .i64 t.pm,.int .i64 t.sl,gv,rv,lv] 100)).alloc (.cells Try.zeroCells105 105)).alloc (.cells #[.bool false] 4)) = W at q0 q1 q2 E0 ⊢
 generalize hN0 : w.heap.size = N0 at q0 q1 q2 ⊢
 refine wp_region_lit ?_
 refine seq_val rfl rfl (R_loadRow (cs:=[.int .i64 t.S,.int .i64 t.A,.int .i64 t.T,.int .i64 t.bl,.int .i64 t.bm,.int .i64 t.pl,.int .i64 t.pm,.int .i64 t.sl,gv,rv,lv]) rfl rfl Try.underlying100 rfl (by kernel_rfl) (range_of_block q0)) (by simp only [ls,lz];exact rfl) ?_
 refine seq_val rfl rfl (R_move (v:=.int .u16 _) rfl rfl) (by simp only [ls,lz];exact rfl) ?_
 refine seq_call rfl rfl (by kernel_rfl) (loose_any t ok gv rv lv out ho1 ho2 _ (ht.ext E0 (by simp))) fun e w' hR=>?_;obtain ⟨rfl,e1⟩:=hR;refine ⟨_,_,rfl,(by simp only [ls,lz];exact rfl),?_⟩
 refine seq_callP rfl rfl (by kernel_rfl) (narrow_any (looseM t out) _ hs hs2) fun e w2 hR=>?_
 obtain ⟨e2,⟨hn,rfl⟩ | ⟨m',hm,rfl⟩⟩:=hR
 ·(refine .inr ⟨_,rfl,?_⟩;refine leaves_cons (f:=131) (args:=#[.pointer (some ⟨N0 + 1 + 1,0,none⟩)]) (by simp) (by simp [go_sem]) ?_;refine (catch_clash (N0 + 1 + 1) false _ (e2.keep0 (e1.keep0 q2))).mono ?_;rintro e u' w3 ⟨rfl,rfl,rfl⟩;have r1:=e2.keep0 (e1.keep0 q1);have r2:=e2.keep0 (e1.keep0 q2);have E4 : Ext [N0 + 1 + 1] w ((w2.alloc (.cells #[] 163)).setCell ⟨N0 + 1 + 1,0,none⟩ (.bool false)):=Ext.setCell (Ext.alloc (((E0.nil e1).nil e2).mono (by simp)) _) (by simp) _;have E5 : Ext [] w ((w2.alloc (.cells #[] 163)).setCell ⟨N0 + 1 + 1,0,none⟩ (.bool false)):=(Ext.refl _ _).trans' E4 (by simp;omega);refine ⟨_,res_cell2 rfl rfl Try.underlying105 rfl (by rw [matCells_size];kernel_rfl) (((Below.heap_setCell _ _ _ _ (by simp)).trans (blk_old r1)).trans (by rw [zeroMat])) rfl (loadVar_cell (v:=.bool false) Try.underlying4 rfl ?_),E5,.inl ⟨hn,rfl⟩⟩;exact World.cell?_setCell_same _ _ _ (u:=.bool false) ((cells_of_block (blk_old r2) 0).trans rfl))
 refine .inl ⟨_,_,rfl,(by simp only [ls,lz];exact rfl),?_⟩
 have q1':=e2.keep0 (e1.keep0 q1)
 have q2':=e2.keep0 (e1.keep0 q2)
 refine seq_to rfl rfl (R_storeRow (cs:=matCells m') rfl rfl rfl (by rw [matCells_size];kernel_rfl) (by rw [← matList_toArray];exact all_oneCell_toArray (matList_one _)) q1' (by rw [Try.zeroCells105_size,matCells_size])) fun W4 hW4=>?_
 have q24 : W4.heap[N0 + 1 + 1]? = some (.cells #[.bool false] 4 (0,0)):=by rw [hW4,setCells_other _ _ _ _ _ (by omega)];exact q2'
 refine seq_to rfl rfl (R_store (v:=.bool _) rfl rfl rfl rfl (by kernel_rfl) ((cells_of_block q24 0).trans rfl) (free_of_block q24 0)) fun W5 hW5=>?_
 refine wpList_nil ?_
 have q14 : W4.heap[N0 + 1]? = some (.cells (matCells m') 105 (0,0)):=by rw [hW4,← matList_toArray,stored_block q1' (by rw [Try.zeroCells105_size,matList_toArray,matCells_size])]
 have E4 : Ext [N0 + 1] W W4:=by rw [hW4];exact ((e1.nil e2).mono (by simp)).setCells (fun _=>by simp) _ _
 have E6 : Ext [N0 + 1,N0 + 1 + 1] W W5:=by rw [hW5];exact (E4.mono (by simp)).setCell (by simp) _
 have q15 : W5.heap[N0 + 1]? = some (.cells (matCells m') 105 (0,0)):=by rw [hW5];exact (Below.heap_setCell _ _ _ _ (by simp)).trans q14
 have q25b : N0 + 1 + 1 < W5.heap.size:=by rw [hW5,size_setCell];exact blk_lt q24
 have q25 : W5.cell? ⟨N0 + 1 + 1,0,none⟩ = some (.bool true):=by rw [hW5];exact World.cell?_setCell_same _ _ _ (u:=.bool false) ((cells_of_block q24 0).trans rfl)
 clear hW5 hW4
 have E7 : Ext [] w W5:=E0.trans' E6 (by simp;omega)
 go_wp2
 refine leaves_cons (f:=131) (args:=#[.pointer (some ⟨N0 + 1 + 1,0,none⟩)]) (by simp) (by simp [go_sem]) ?_
 refine (catch_idle _ _).mono ?_
 rintro e u' w3 ⟨rfl,rfl,rfl⟩
 refine ⟨_,res_cell2 rfl rfl Try.underlying105 rfl (by rw [matCells_size];kernel_rfl) (blk_old q15) rfl (loadVar_cell (v:=.bool true) Try.underlying4 rfl ?_),E7.alloc _,.inr ⟨m',hm,rfl⟩⟩
 exact ((Ext.refl [] W5).alloc _).cell (a:=⟨N0 + 1 + 1,0,none⟩) q25b (by simp) |>.trans q25
theorem solve_ok (t : Tp) (ok : t.Ok) (gv rv lv : Value) (out : Int) (ho1 : 0 ≤ out) (ho2 : out < 65536) (w : World) (ht : IsTp w gv rv lv t) :
  Calls Try.prog 80 #[tpV t gv rv lv,.int .u16 out] w fun e w'=>Ext [] w w' ∧
   ((kTo (looseM t out) 13 = none ∧ e = .returned (.tuple #[.agg (matCells fun _ _=>0),.bool false])) ∨ ∃ m',kTo (looseM t out) 13 = some m' ∧ e = .returned (.tuple #[.agg (matCells m'),.bool true])):=
 solve_any t ok gv rv lv out ho1 ho2 w ht (safe_loose ok out) (again_loose ok out)
theorem sol_limit {m : Nat → Nat → Int} {l h : Nat} (hne : l ≠ h) (hl : l < 13) (hh : h < 13) {lo hi : Int} {x : Nat → Int} :
  sol (limitM m l h lo hi) x ↔ sol m x ∧ lo ≤ x h - x l ∧ x h - x l ≤ hi:=by
 have e1 : ∀ i j,limitM m l h lo hi i j = if i = h ∧ j = l then min (m h l) (-lo) else if i = l ∧ j = h then min (m l h) hi else m i j:=by
  intro i j
  unfold limitM upd
  rw [if_neg (show ¬ (h = l ∧ l = h) by omega)]
 constructor
 ·intro H
  refine ⟨fun i j hi' hj'=>?_,?_,?_⟩
  ·have:=H i j hi' hj'
   rw [e1] at this
   split at this
   ·rename_i c;obtain ⟨rfl,rfl⟩:=c;omega
   ·split at this
    ·rename_i c;obtain ⟨rfl,rfl⟩:=c;omega
    ·exact this
  ·have:=H h l hh hl
   rw [e1,if_pos ⟨rfl,rfl⟩] at this
   omega
  ·have:=H l h hl hh
   rw [e1,if_neg (by omega),if_pos ⟨rfl,rfl⟩] at this
   omega
 ·rintro ⟨H,h1,h2⟩ i j hi' hj'
  have a:=H i j hi' hj'
  rw [e1]
  split
  ·rename_i c;obtain ⟨rfl,rfl⟩:=c;omega
  ·split
   ·rename_i c;obtain ⟨rfl,rfl⟩:=c;omega
   ·exact a
theorem sol_far {x : Nat → Int} : sol farM x ↔ ∀ i j,i < 13 → j < 13 → x j - x i ≤ 1048576:=by
 constructor
 ·intro H i j hi hj
  have:=H i j hi hj
  unfold farM at this
  split at this <;> omega
 ·intro H i j hi hj
  have:=H i j hi hj
  unfold farM
  split
  ·rename_i c;subst c;omega
  ·exact this
structure CellOk (t : Tp) (s a : Nat) (x : Nat → Int) : Prop where
 lo : t.bl ≤ x (nodeC s a) - x 0
 hi : x (nodeC s a) - x 0 ≤ t.bm
 glo : 0 < a → (t.gr.getD s (0,0)).1 ≤ x (nodeC s a) - x (nodeC s ((a : Int) - 1))
 ghi : 0 < a → x (nodeC s a) - x (nodeC s ((a : Int) - 1)) ≤ (t.gr.getD s (0,0)).2
structure ReadOk (t : Tp) (r : Int × Int × Int × Int) (x : Nat → Int) : Prop where
 lo : r.2.2.2 - t.sl ≤ x (nodeC r.1 r.2.1) - x (nodeT r.2.2.1)
 hi : x (nodeC r.1 r.2.1) - x (nodeT r.2.2.1) ≤ r.2.2.2 + t.sl
structure LinkOk (l : Int × Int × Int × Int × Int × Int) (x : Nat → Int) : Prop where
 lo : l.2.2.2.2.1 ≤ x (nodeC l.1 l.2.1) - x (nodeC l.2.2.1 l.2.2.2.1)
 hi : x (nodeC l.1 l.2.1) - x (nodeC l.2.2.1 l.2.2.2.1) ≤ l.2.2.2.2.2
structure TailOk (t : Tp) (i : Nat) (x : Nat → Int) : Prop where
 lo : -t.pm ≤ x (nodeT i) - x 0
 hi : x (nodeT i) - x 0 ≤ -t.pl
theorem cellTo_succ (t : Tp) (m : Nat → Nat → Int) (s a : Nat) : cellTo t m s (a + 1) = if (0 : Int) < (a : Int) then limitM (limitM (cellTo t m s a) 0 (nodeC s a) t.bl t.bm) (nodeC s ((a : Int) - 1)) (nodeC s a) ((t.gr.getD s (0,0)).1) ((t.gr.getD s (0,0)).2)
  else limitM (cellTo t m s a) 0 (nodeC s a) t.bl t.bm:=rfl
theorem singTo_succ (t : Tp) (m : Nat → Nat → Int) (s : Nat) : singTo t m (s + 1) = cellTo t (singTo t m s) s t.A.toNat:=rfl
theorem tailTo_succ (t : Tp) (m : Nat → Nat → Int) (i : Nat) : tailTo t m (i + 1) = limitM (tailTo t m i) 0 (nodeT i) (-t.pm) (-t.pl):=rfl
theorem readTo_succ (t : Tp) (out : Int) (m : Nat → Nat → Int) (i : Nat) : readTo t out m (i + 1) = if hasB out i then readTo t out m i
  else limitM (readTo t out m i) (nodeT (t.rd.getD i (0,0,0,0)).2.2.1) (nodeC (t.rd.getD i (0,0,0,0)).1 (t.rd.getD i (0,0,0,0)).2.1) ((t.rd.getD i (0,0,0,0)).2.2.2 - t.sl) ((t.rd.getD i (0,0,0,0)).2.2.2 + t.sl):=rfl
theorem linkTo_succ (t : Tp) (m : Nat → Nat → Int) (i : Nat) : linkTo t m (i + 1) = limitM (linkTo t m i) (nodeC (t.lk.getD i (0,0,0,0,0,0)).2.2.1 (t.lk.getD i (0,0,0,0,0,0)).2.2.2.1) (nodeC (t.lk.getD i (0,0,0,0,0,0)).1 (t.lk.getD i (0,0,0,0,0,0)).2.1) (t.lk.getD i (0,0,0,0,0,0)).2.2.2.2.1 (t.lk.getD i (0,0,0,0,0,0)).2.2.2.2.2:=rfl
theorem sol_cell {t : Tp} (ok : t.Ok) {m : Nat → Nat → Int} {s : Nat} (hs : (s : Int) < t.S) {x : Nat → Int} : ∀ a : Nat,(a : Int) ≤ t.A → (sol (cellTo t m s a) x ↔ sol m x ∧ ∀ b < a,CellOk t s b x)
 | 0,_=>by simp [cellTo]
 | a + 1,ha=>by
  have ih:=sol_cell ok (m:=m) hs (x:=x) a (by omega)
  have o1:=ok.S3
  have o2:=ok.A3
  have key : sol (cellTo t m s (a + 1)) x ↔ sol (cellTo t m s a) x ∧ CellOk t s a x:=by
   rw [cellTo_succ]
   split
   ·rename_i h0
    rw [sol_limit (by unfold nodeC;omega) (by unfold nodeC;omega) (by unfold nodeC;omega),sol_limit (by unfold nodeC;omega) (by omega) (by unfold nodeC;omega)]
    constructor
    ·rintro ⟨⟨h1,h2,h3⟩,h4,h5⟩;exact ⟨h1,⟨h2,h3,fun _=>h4,fun _=>h5⟩⟩
    ·rintro ⟨h1,c⟩;exact ⟨⟨h1,c.lo,c.hi⟩,c.glo (by omega),c.ghi (by omega)⟩
   ·rename_i h0
    rw [sol_limit (by unfold nodeC;omega) (by omega) (by unfold nodeC;omega)]
    constructor
    ·rintro ⟨h1,h2,h3⟩;exact ⟨h1,⟨h2,h3,fun h=>absurd h (by omega),fun h=>absurd h (by omega)⟩⟩
    ·rintro ⟨h1,c⟩;exact ⟨h1,c.lo,c.hi⟩
  rw [key,ih]
  constructor
  ·rintro ⟨⟨h1,h2⟩,h3⟩
   refine ⟨h1,fun b hb=>?_⟩
   by_cases e : b = a
   ·subst e;exact h3
   ·exact h2 b (by omega)
  ·rintro ⟨h1,h2⟩;exact ⟨⟨h1,fun b hb=>h2 b (by omega)⟩,h2 a (by omega)⟩
theorem sol_sing {t : Tp} (ok : t.Ok) {m : Nat → Nat → Int} {x : Nat → Int} : ∀ s : Nat,(s : Int) ≤ t.S → (sol (singTo t m s) x ↔ sol m x ∧ ∀ p < s,∀ a : Nat,(a : Int) < t.A → CellOk t p a x)
 | 0,_=>by simp [singTo]
 | s + 1,hs=>by
  have ih:=sol_sing ok (m:=m) (x:=x) s (by omega)
  have o2:=ok.A1
  rw [singTo_succ,sol_cell ok (by omega) _ (by omega),ih]
  constructor
  ·rintro ⟨⟨h1,h2⟩,h3⟩
   refine ⟨h1,fun p hp a ha=>?_⟩
   by_cases e : p = s
   ·subst e;exact h3 a (by omega)
   ·exact h2 p (by omega) a ha
  ·rintro ⟨h1,h2⟩;exact ⟨⟨h1,fun p hp=>h2 p (by omega)⟩,fun b hb=>h2 s (by omega) b (by omega)⟩
theorem sol_tail {t : Tp} (ok : t.Ok) {m : Nat → Nat → Int} {x : Nat → Int} : ∀ i : Nat,(i : Int) ≤ t.T → (sol (tailTo t m i) x ↔ sol m x ∧ ∀ p < i,TailOk t p x)
 | 0,_=>by simp [tailTo]
 | i + 1,hi=>by
  have ih:=sol_tail ok (m:=m) (x:=x) i (by omega)
  have o2:=ok.T3
  rw [tailTo_succ,sol_limit (by unfold nodeT;omega) (by omega) (by unfold nodeT;omega),ih]
  constructor
  ·rintro ⟨⟨h1,h2⟩,h3,h4⟩
   refine ⟨h1,fun p hp=>?_⟩
   by_cases e : p = i
   ·subst e;exact ⟨h3,h4⟩
   ·exact h2 p (by omega)
  ·rintro ⟨h1,h2⟩;exact ⟨⟨h1,fun p hp=>h2 p (by omega)⟩,(h2 i (by omega)).lo,(h2 i (by omega)).hi⟩
theorem sol_read {t : Tp} (ok : t.Ok) (out : Int) {m : Nat → Nat → Int} {x : Nat → Int} : ∀ i : Nat,i ≤ t.rd.length → (sol (readTo t out m i) x ↔ sol m x ∧ ∀ p < i,hasB out p = false → ReadOk t (t.rd.getD p (0,0,0,0)) x)
 | 0,_=>by simp [readTo]
 | i + 1,hi=>by
  have ih:=sol_read ok out (m:=m) (x:=x) i (by omega)
  have g:=ok.rd (t.rd.getD i (0,0,0,0)) (getD_mem _ (by omega))
  have o1:=ok.T3
  have o3:=ok.S3
  have o4:=ok.A3
  rw [readTo_succ]
  split
  ·rename_i hb
   rw [ih]
   constructor
   ·rintro ⟨h1,h2⟩
    refine ⟨h1,fun p hp hf=>?_⟩
    by_cases e : p = i
    ·subst e;rw [hb] at hf;cases hf
    ·exact h2 p (by omega) hf
   ·rintro ⟨h1,h2⟩;exact ⟨h1,fun p hp=>h2 p (by omega)⟩
  ·rename_i hb
   rw [sol_limit (by unfold nodeT nodeC;omega) (by unfold nodeT;omega) (by unfold nodeC;omega),ih]
   constructor
   ·rintro ⟨⟨h1,h2⟩,h3,h4⟩
    refine ⟨h1,fun p hp hf=>?_⟩
    by_cases e : p = i
    ·subst e;exact ⟨h3,h4⟩
    ·exact h2 p (by omega) hf
   ·rintro ⟨h1,h2⟩
    have hf : hasB out i = false:=by simpa using hb
    exact ⟨⟨h1,fun p hp=>h2 p (by omega)⟩,(h2 i (by omega) hf).lo,(h2 i (by omega) hf).hi⟩
theorem sol_link {t : Tp} (ok : t.Ok) {m : Nat → Nat → Int} {x : Nat → Int} : ∀ i : Nat,i ≤ t.lk.length → (sol (linkTo t m i) x ↔ sol m x ∧ ∀ p < i,LinkOk (t.lk.getD p (0,0,0,0,0,0)) x)
 | 0,_=>by simp [linkTo]
 | i + 1,hi=>by
  have ih:=sol_link ok (m:=m) (x:=x) i (by omega)
  have g:=ok.lk (t.lk.getD i (0,0,0,0,0,0)) (getD_mem _ (by omega))
  obtain ⟨g1,g2,g3,g4,g5,g6,g7,g8,g9,g10,g11,g12⟩:=g
  have o3:=ok.S3
  have o4:=ok.A3
  rw [linkTo_succ,sol_limit (by unfold nodeC;omega) (by unfold nodeC;omega) (by unfold nodeC;omega),ih]
  constructor
  ·rintro ⟨⟨h1,h2⟩,h3,h4⟩
   refine ⟨h1,fun p hp=>?_⟩
   by_cases e : p = i
   ·subst e;exact ⟨h3,h4⟩
   ·exact h2 p (by omega)
  ·rintro ⟨h1,h2⟩;exact ⟨⟨h1,fun p hp=>h2 p (by omega)⟩,(h2 i (by omega)).lo,(h2 i (by omega)).hi⟩
structure Tr (t : Tp) (out : Int) (x : Nat → Int) : Prop where
 cell : ∀ s a : Nat,(s : Int) < t.S → (a : Int) < t.A → CellOk t s a x
 tail : ∀ i : Nat,(i : Int) < t.T → TailOk t i x
 read : ∀ i < t.rd.length,hasB out i = false → ReadOk t (t.rd.getD i (0,0,0,0)) x
 link : ∀ i < t.lk.length,LinkOk (t.lk.getD i (0,0,0,0,0,0)) x
def live (t : Tp) (i : Nat) : Prop:=i = 0 ∨ (∃ s a : Nat,(s : Int) < t.S ∧ (a : Int) < t.A ∧ i = nodeC s a) ∨ ∃ k : Nat,(k : Int) < t.T ∧ i = nodeT k
theorem live_zero (t : Tp) : live t 0:=.inl rfl
theorem live_cell {t : Tp} {s a : Nat} (hs : (s : Int) < t.S) (ha : (a : Int) < t.A) : live t (nodeC s a):=.inr (.inl ⟨s,a,hs,ha,rfl⟩)
theorem live_tail {t : Tp} {k : Nat} (hk : (k : Int) < t.T) : live t (nodeT k):=.inr (.inr ⟨k,hk,rfl⟩)
theorem live_lt {t : Tp} (ok : t.Ok) {i : Nat} (h : live t i) : i < 13:=by
 have o1:=ok.S3
 have o2:=ok.A3
 have o3:=ok.T3
 rcases h with rfl | ⟨s,a,hs,ha,rfl⟩ | ⟨k,hk,rfl⟩
 ·omega
 ·unfold nodeC;omega
 ·unfold nodeT;omega
theorem sol_loose {t : Tp} (ok : t.Ok) (out : Int) {x : Nat → Int} : sol (looseM t out) x ↔ (∀ i j,i < 13 → j < 13 → x j - x i ≤ 1048576) ∧ Tr t out x:=by
 have o1:=ok.S1
 have o2:=ok.T1
 unfold looseM
 rw [sol_link ok _ (Nat.le_refl _),sol_read ok out _ (Nat.le_refl _),sol_tail ok _ (by omega),sol_sing ok _ (by omega),sol_far]
 constructor
 ·rintro ⟨⟨⟨⟨h1,h2⟩,h3⟩,h4⟩,h5⟩
  exact ⟨h1,⟨fun s a hs ha=>h2 s (by omega) a ha,fun i hi=>h3 i (by omega),h4,h5⟩⟩
 ·rintro ⟨h1,h⟩
  exact ⟨⟨⟨⟨h1,fun p hp a ha=>h.cell p a (by omega) ha⟩,fun p hp=>h.tail p (by omega)⟩,h.read⟩,h.link⟩
theorem Tr.congr {t : Tp} (ok : t.Ok) {out : Int} {x x' : Nat → Int} (e : ∀ i,live t i → x i = x' i) (h : Tr t out x) : Tr t out x':=by
 have z:=e 0 (live_zero t)
 refine ⟨fun s a hs ha=>?_,fun i hi=>?_,fun i hi hb=>?_,fun i hi=>?_⟩
 ·have c:=h.cell s a hs ha
  have e1:=e _ (live_cell hs ha)
  refine ⟨by rw [← e1,← z];exact c.lo,by rw [← e1,← z];exact c.hi,fun h0=>?_,fun h0=>?_⟩
  all_goals
   have e2:=e _ (live_cell hs (a:=a - 1) (by omega))
   rw [show ((a - 1 : Nat) : Int) = (a : Int) - 1 by omega] at e2
   rw [← e1,← e2]
  ·exact c.glo h0
  ·exact c.ghi h0
 ·have c:=h.tail i hi
  have e1:=e _ (live_tail hi)
  exact ⟨by rw [← e1,← z];exact c.lo,by rw [← e1,← z];exact c.hi⟩
 ·have c:=h.read i hi hb
  have g:=ok.rd (t.rd.getD i (0,0,0,0)) (getD_mem _ hi)
  generalize t.rd.getD i (0,0,0,0) = r at c g ⊢
  obtain ⟨r1,r2,r3,r4⟩:=r
  obtain ⟨g1,g2,g3,g4,g5,g6,g7⟩:=g
  try simp only at g1 g2 g3 g4 g5 g6 g7
  obtain ⟨r1,rfl⟩:=Int.eq_ofNat_of_zero_le g1
  obtain ⟨r2,rfl⟩:=Int.eq_ofNat_of_zero_le g3
  obtain ⟨r3,rfl⟩:=Int.eq_ofNat_of_zero_le g5
  have e1:=e _ (live_cell g2 g4)
  have e2:=e _ (live_tail g6)
  exact ⟨by show _ ≤ x' (nodeC _ _) - x' _;rw [← e1,← e2];exact c.lo,by show x' (nodeC _ _) - x' _ ≤ _;rw [← e1,← e2];exact c.hi⟩
 ·have c:=h.link i hi
  have g:=ok.lk (t.lk.getD i (0,0,0,0,0,0)) (getD_mem _ hi)
  generalize t.lk.getD i (0,0,0,0,0,0) = r at c g ⊢
  obtain ⟨r1,r2,r3,r4,r5,r6⟩:=r
  obtain ⟨g1,g2,g3,g4,g5,g6,g7,g8,-⟩:=g
  try simp only at g1 g2 g3 g4 g5 g6 g7 g8
  obtain ⟨r1,rfl⟩:=Int.eq_ofNat_of_zero_le g1
  obtain ⟨r2,rfl⟩:=Int.eq_ofNat_of_zero_le g3
  obtain ⟨r3,rfl⟩:=Int.eq_ofNat_of_zero_le g5
  obtain ⟨r4,rfl⟩:=Int.eq_ofNat_of_zero_le g7
  have e1:=e _ (live_cell g2 g4)
  have e2:=e _ (live_cell g6 g8)
  exact ⟨by show _ ≤ x' (nodeC _ _) - x' _;rw [← e1,← e2];exact c.lo,by show x' (nodeC _ _) - x' _ ≤ _;rw [← e1,← e2];exact c.hi⟩
theorem Tr.near {t : Tp} (ok : t.Ok) {out : Int} {x : Nat → Int} (h : Tr t out x) {i : Nat} (hi : live t i) : -1000 ≤ x i - x 0 ∧ x i - x 0 ≤ 1000:=by
 have o1:=ok.bl1
 have o2:=ok.bm1
 have o3:=ok.pl1
 have o4:=ok.pm1
 rcases hi with rfl | ⟨s,a,hs,ha,rfl⟩ | ⟨k,hk,rfl⟩
 ·omega
 ·have c:=h.cell s a hs ha
  have c1:=c.lo
  have c2:=c.hi
  constructor <;> omega
 ·have c:=h.tail k hk
  have c1:=c.lo
  have c2:=c.hi
  constructor <;> omega
open Classical in
noncomputable def trim (t : Tp) (x : Nat → Int) : Nat → Int:=fun i=>if live t i then x i else x 0
theorem trim_live {t : Tp} {x : Nat → Int} {i : Nat} (h : live t i) : trim t x i = x i:=by unfold trim;rw [if_pos h]
theorem Tr.trim {t : Tp} (ok : t.Ok) {out : Int} {x : Nat → Int} (h : Tr t out x) : sol (looseM t out) (trim t x):=by
 refine (sol_loose ok out).2 ⟨fun i j _ _=>?_,h.congr ok fun i hi=>(trim_live hi).symm⟩
 have n0:=h.near ok (live_zero t)
 have key : ∀ i,-1000 ≤ Go.Proofs.Ytholfdgebdlgjaa.trim t x i - x 0 ∧ Go.Proofs.Ytholfdgebdlgjaa.trim t x i - x 0 ≤ 1000:=fun i=>by
  by_cases c : live t i
  ·rw [trim_live c];exact h.near ok c
  ·unfold Go.Proofs.Ytholfdgebdlgjaa.trim;rw [if_neg c];omega
 have a:=key i
 have b:=key j
 omega
theorem bd_none {t : Tp} (ok : t.Ok) {out : Int} : kTo (looseM t out) 13 = none ↔ ¬ ∃ x,Tr t out x:=by
 constructor
 ·rintro h ⟨x,hx⟩
  obtain ⟨y,hy,-⟩:=sol_kTo (hx.trim ok) 13 (Nat.le_refl _)
  rw [h] at hy;cases hy
 ·intro h
  cases e : kTo (looseM t out) 13 with
  | none=>rfl
  | some y =>
   have hc:=closed_of_round (fun p _=>by rw [(small_loose ok out).2 p];exact Int.le_refl _) e
   exact absurd ⟨_,((sol_loose ok out).1 (sol_back e (sol_reach hc (show 0 < 13 by omega)))).2⟩ h
theorem bd_some {t : Tp} (ok : t.Ok) {out : Int} {x : Nat → Int} (h : Tr t out x) : ∃ y,kTo (looseM t out) 13 = some y:=by
 cases e : kTo (looseM t out) 13 with
 | none=>exact absurd ⟨x,h⟩ ((bd_none ok).1 e)
 | some y=>exact ⟨y,rfl⟩
theorem bd_le {t : Tp} (ok : t.Ok) {out : Int} {y : Nat → Nat → Int} (hy : kTo (looseM t out) 13 = some y) {x : Nat → Int} (h : Tr t out x) {i j : Nat} (hi : live t i) (hj : live t j) : x j - x i ≤ y i j:=by
 obtain ⟨y',hy',hs⟩:=sol_kTo (h.trim ok) 13 (Nat.le_refl _)
 rw [hy] at hy'
 obtain rfl:=Option.some.inj hy'
 have:=hs i j (live_lt ok hi) (live_lt ok hj)
 rwa [trim_live hi,trim_live hj] at this
theorem bd_reach {t : Tp} (ok : t.Ok) {out : Int} {y : Nat → Nat → Int} (hy : kTo (looseM t out) 13 = some y) {i : Nat} (hi : i < 13) : Tr t out (fun j=>y i j) ∧ y i i = 0:=by
 have hc:=closed_of_round (fun p _=>by rw [(small_loose ok out).2 p];exact Int.le_refl _) hy
 refine ⟨((sol_loose ok out).1 (sol_back hy (sol_reach hc hi))).2,?_⟩
 have a:=hc.1 i hi
 have b:=kTo_le i i hy
 rw [(small_loose ok out).2 i] at b
 omega
theorem bd_eq {t : Tp} (ok : t.Ok) {out : Int} {y : Nat → Nat → Int} (hy : kTo (looseM t out) 13 = some y) {i j : Nat} (hi : live t i) (hj : live t j) {n : Int} (hle : ∀ x,Tr t out x → x j - x i ≤ n) {x : Nat → Int} (hx : Tr t out x) (he : x j - x i = n) : y i j = n:=by
 obtain ⟨r1,r2⟩:=bd_reach ok hy (live_lt ok hi)
 have a:=hle _ r1
 have b:=bd_le ok hy hx hi hj
 try simp only at a
 omega
end Go.Proofs.Ytholfdgebdlgjaa
