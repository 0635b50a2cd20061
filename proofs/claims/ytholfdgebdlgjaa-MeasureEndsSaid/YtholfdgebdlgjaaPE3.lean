/- Parts of a proof: Nar, Loo, FwLaw, FwClose, LooLaw, Sol, Tru. No conditions. -/
import Derived.Deep.Cut
import Derived.Defers
import Derived.LoopTactic
import Derived.Recover
import Derived.ScopeJumps
import Derived.Test.YtholfdgebdlgjaaPE1
set_option linter.unusedVariables false
set_option linter.unusedSimpArgs false
namespace Go.Proofs.Ytholfdgebdlgjaa
open Go.RowKit
noncomputable def Z5a:Code:=match Try.f132.body with
 | some (.seq _ (.scope (.seq _ c)))=>c
 | _=>.skip
theorem Zbt {m:Nat → Nat → Int} {k:Nat}:∀ {i:Nat},iTo m k i = none → ∀ {i':Nat},i ≤ i' → iTo m k i' = none:=by
 intro i h i' hi
 induction hi with
 | refl=>exact h
 | step _ ih=>simp [iTo,ih]
theorem Zb4 {m:Nat → Nat → Int}:∀ {k:Nat},kTo m k = none → ∀ {k':Nat},k ≤ k' → kTo m k' = none:=by
 intro k h k' hk
 induction hk with
 | refl=>exact h
 | step _ ih=>simp [kTo,ih]
set_option maxRecDepth 100000 in
set_option maxHeartbeats 1000000 in
theorem Z4F (Q:Exit → Act → World → Prop) (m:Nat → Nat → Int) (hs:Z4W m) (Bb Br:Nat) (w:World) (hb:MatAt w Bb 105 m) (z:Array Value) (hz:z.size = 169) (hr:w.heap[Br]? = some (.cells z 105 (0,0))) (hne:Bb ≠ Br)
  (x0 x3 x4 x5 x6 x7 x8 x9 x10 x11 x12 x13 x14 x15 x16 x17 x18 x19 x20 x21 x22 x23 x24 x25 x26 x27 x28 x29 x30 x31 x32 x33 x34 x35 x36 x37 x38 x39 x40 x41 x42 x43 x44 x45 x46 x47 x48 x49 x50 x51 x52:Value)
  (hpanic:Hid (kTo m 13 = none → ∀ a w',a.defers = [] → Ext [Bb] w w' → Q (.panic [{ v:=.iface 163 (.agg #[]),recovered:=false }]) a w'))
  (hjump:Hid (∀ m',kTo m 13 = some m' → eqM m' m = false → ∀ w',MatAt w' Bb 105 m' → Ext [Bb] w w' → ∀ (x0 x3 x4 x5 x6 x7 x8 x9 x10 x11 x12 x13 x14 x15 x16 x17 x18 x19 x20 x21 x22 x23 x24 x25 x26 x27 x28 x29 x30 x31 x32 x33 x34 x35 x36 x37 x38 x39 x40 x41 x42 x43 x44 x45 x46 x47 x48 x49 x50 x51 x52:Value),Q (.goto 0) ⟨(x0 :: .pointer (some ⟨Bb,0,none⟩) :: .pointer (some ⟨Br,0,none⟩) :: x3 :: x4 :: x5 :: x6 :: x7 :: x8 :: x9 :: x10 :: x11 :: x12 :: x13 :: x14 :: x15 :: x16 :: x17 :: x18 :: x19 :: x20 :: x21 :: x22 :: x23 :: x24 :: x25 :: x26 :: x27 :: x28 :: x29 :: x30 :: x31 :: x32 :: x33 :: x34 :: x35 :: x36 :: x37 :: x38 :: x39 :: x40 :: x41 :: x42 :: x43 :: x44 :: x45 :: x46 :: x47 :: x48 :: x49 :: x50 :: x51 :: x52 :: []).toArray,[]⟩ w'))
  (hret:Hid (∀ m',kTo m 13 = some m' → eqM m' m = true → ∀ a w',a.defers = [] → a.tmps.getD 2 undef = .pointer (some ⟨Br,0,none⟩) → w'.heap[Br]? = some (.cells (ZD m') 105 (0,0)) → Ext [Bb,Br] w w' → Q .ret a w')) :
  Z5a.wp Try.prog Q ⟨(x0 :: .pointer (some ⟨Bb,0,none⟩) :: .pointer (some ⟨Br,0,none⟩) :: x3 :: x4 :: x5 :: x6 :: x7 :: x8 :: x9 :: x10 :: x11 :: x12 :: x13 :: x14 :: x15 :: x16 :: x17 :: x18 :: x19 :: x20 :: x21 :: x22 :: x23 :: x24 :: x25 :: x26 :: x27 :: x28 :: x29 :: x30 :: x31 :: x32 :: x33 :: x34 :: x35 :: x36 :: x37 :: x38 :: x39 :: x40 :: x41 :: x42 :: x43 :: x44 :: x45 :: x46 :: x47 :: x48 :: x49 :: x50 :: x51 :: x52 :: []).toArray,[]⟩ w:=by
 change Code.wp _ (Code.seq _ _) _ _ _
 refine wp_seq_k fun K1 hK1=>?_
 refine wp_region_lit ?_
 refine Z3 rfl rfl (ZP (cs:=Z0Y m) rfl rfl Try.underlying105 rfl (Z2r m) hb.range) (by simp only [ls,lz];exact rfl) ?_
 refine Zy rfl rfl (ZB rfl Try.zeroValue105) (by simp only [ls,lz];exact rfl) fun W1 hW1=>?_
 have hb1:MatAt W1 Bb 105 m:=hW1 ▸ hb.alloc _
 have q1:W1.heap[w.heap.size]? = some (.cells Try.zeroCells105 105 (0,0)):=hW1 ▸ Z0V rfl
 have E1:Ext [Bb] w W1:=hW1 ▸ (Ext.refl _ _).alloc _
 refine ZY rfl rfl (Zg (cs:=(Z0Y m).toArray) rfl rfl rfl (by rw [List.size_toArray];exact Z2r m) (all_oneCell_toArray (Z05 m)) q1 (by rw [Try.zeroCells105_size,List.size_toArray,Z1a])) fun W2 hW2=>?_
 refine wpList_nil ?_
 have q2:W2.heap[w.heap.size]? = some (.cells (ZD m) 105 (0,0)):=by
  rw [hW2,Z1e q1 (by rw [Try.zeroCells105_size,List.size_toArray,Z1a]),ZI]
 have hb2:MatAt W2 Bb 105 m:=⟨by rw [hW2,Z1b _ _ _ _ _ (by have:=hb.lt;omega)];exact hb1.blk⟩
 have E2:Ext [Bb] w W2:=by rw [hW2];exact E1.setCells (fun h=>absurd h (by omega)) _ _
 clear hW2 hW1 q1 hb1 E1
 refine hK1 _ _ ?_
 clear hK1
 generalize hBo:w.heap.size = Bo at q2
 have HBo:=Lib.hid hBo;clear hBo
 have hnb:Bb ≠ Bo:=by have:=hb.lt;have:=HBo.out;omega
 go_wp2_with fail
 go_loopw [8] (fun kv wr=>∃ (k:Nat) (mk:Nat → Nat → Int),k ≤ 13 ∧ kv = .int .i64 k ∧ kTo m k = some mk ∧ MatAt wr Bb 105 mk ∧ wr.heap[Bo]? = some (.cells (ZD m) 105 (0,0)) ∧ Ext [Bb] w wr) (fun kv _=>13 - (intOf kv).toNat)
 case atStart=>exact ⟨0,m,Nat.zero_le _,rfl,rfl,hb2,q2,E2⟩
 case round =>
  obtain ⟨k,mk,hk,rfl,hmk,hbk,qk,Ek⟩:=hrel
  have Hmk:=Lib.hid hmk;clear hmk
  clear hb2 q2 E2
  have Hqk:=Lib.hid qk;clear qk
  by_cases hlt:k < 13
  ·go_wp2_with fail
   obtain ⟨wk,rfl⟩:∃ wk:World,wk = wr:=⟨_,rfl⟩
   go_loopw [11] (fun iv wr=>∃ (i:Nat) (mi:Nat → Nat → Int),i ≤ 13 ∧ iv = .int .i64 i ∧ iTo mk k i = some mi ∧ MatAt wr Bb 105 mi ∧ wr.heap[Bo]? = some (.cells (ZD m) 105 (0,0)) ∧ Ext [Bb] w wr) (fun iv _=>13 - (intOf iv).toNat)
   case atStart=>exact ⟨0,mk,Nat.zero_le _,rfl,rfl,hbk,Hqk.out,Ek⟩
   case round =>
    obtain ⟨i,mi,hi,rfl,hmi,hbi,qi,Ei⟩:=hrel
    have Hmi:=Lib.hid hmi;clear hmi
    have Hqi:=Lib.hid qi;clear qi
    by_cases hlti:i < 13
    ·go_wp2_with fail
     obtain ⟨wi,rfl⟩:∃ wi:World,wi = wr:=⟨_,rfl⟩
     go_loopw [14] (fun jv wr=>∃ (j:Nat),j ≤ 13 ∧ jv = .int .i64 j ∧ MatAt wr Bb 105 (Z1w mi k i j) ∧ wr.heap[Bo]? = some (.cells (ZD m) 105 (0,0)) ∧ Ext [Bb] w wr) (fun jv _=>13 - (intOf jv).toNat)
     case atStart=>exact ⟨0,Nat.zero_le _,rfl,hbi,Hqi.out,Ei⟩
     case round =>
      obtain ⟨j,hj,rfl,hbj,qj,Ej⟩:=hrel
      have Hqj:=Lib.hid qj;clear qj
      by_cases hltj:j < 13
      ·have hsf:=hs k i j hlt hlti hltj mk Hmk.out mi Hmi.out
       have Hsf:=Lib.hid hsf;clear hsf
       go_wp2_with fail
       refine Z0g 21 follows (by kernel_rfl) fun W3 hW3 eW3=>?_
       replace hbj:=hbj.same hW3
       replace Hqj:=Lib.hid (Zn hW3 Hqj.out)
       replace Ej:=Ej.nil eW3
       clear hW3 eW3
       refine Zp rfl rfl (Zi (v:=.int .i64 _) rfl rfl) (by simp only [ls,lz];exact rfl) ?_
       refine Zp rfl rfl (Zi (v:=.int .i64 _) rfl rfl) (by simp only [ls,lz];exact rfl) ?_
       refine Zp rfl rfl (Zi (v:=.int .i64 _) rfl rfl) (by simp only [ls,lz];exact rfl) ?_
       refine Zp rfl rfl (Zi (v:=.int .i64 _) rfl rfl) (by simp only [ls,lz];exact rfl) ?_
       refine Zp rfl rfl (Z1v rfl rfl rfl Try.underlying105 (sz:=13) (by kernel_rfl) (by omega) (by omega)) (by simp only [ls,lz];exact rfl) ?_
       refine Zp rfl rfl (Z1v rfl rfl rfl Try.underlying103 (sz:=1) (by kernel_rfl) (by omega) (by omega)) (by simp only [ls,lz];exact rfl) ?_
       refine Zp rfl rfl (Zh rfl rfl Try.underlying3 rfl (hbj.cellAt i j _ (by omega) (by omega) (by omega))) (by simp only [ls,lz];exact rfl) ?_
       refine Zp rfl rfl (Zi (v:=.int .i64 _) rfl rfl) (by simp only [ls,lz];exact rfl) ?_
       refine Zp rfl rfl (Zi (v:=.int .i64 _) rfl rfl) (by simp only [ls,lz];exact rfl) ?_
       refine Zp rfl rfl (Z1v rfl rfl rfl Try.underlying105 (sz:=13) (by kernel_rfl) (by omega) (by omega)) (by simp only [ls,lz];exact rfl) ?_
       refine Zp rfl rfl (Z1v rfl rfl rfl Try.underlying103 (sz:=1) (by kernel_rfl) (by omega) (by omega)) (by simp only [ls,lz];exact rfl) ?_
       refine Zp rfl rfl (Zh rfl rfl Try.underlying3 rfl (hbj.cellAt i k _ (by omega) (by omega) (by omega))) (by simp only [ls,lz];exact rfl) ?_
       refine Zp rfl rfl (Zi (v:=.int .i64 _) rfl rfl) (by simp only [ls,lz];exact rfl) ?_
       refine Zp rfl rfl (Zi (v:=.int .i64 _) rfl rfl) (by simp only [ls,lz];exact rfl) ?_
       refine Zp rfl rfl (Z1v rfl rfl rfl Try.underlying105 (sz:=13) (by kernel_rfl) (by omega) (by omega)) (by simp only [ls,lz];exact rfl) ?_
       refine Zp rfl rfl (Z1v rfl rfl rfl Try.underlying103 (sz:=1) (by kernel_rfl) (by omega) (by omega)) (by simp only [ls,lz];exact rfl) ?_
       refine Zp rfl rfl (Zh rfl rfl Try.underlying3 rfl (hbj.cellAt k j _ (by omega) (by omega) (by omega))) (by simp only [ls,lz];exact rfl) ?_
       refine Zp rfl rfl (Z0F rfl rfl rfl Hsf.out.1 Hsf.out.2) (by simp only [ls,lz];exact rfl) ?_
       refine Zp rfl rfl (Z4O rfl rfl rfl rfl) (by simp only [ls,lz];exact rfl) ?_
       refine Zp rfl rfl (Z1v rfl rfl rfl Try.underlying105 (sz:=13) (by kernel_rfl) (by omega) (by omega)) (by simp only [ls,lz];exact rfl) ?_
       refine Zp rfl rfl (Z1v rfl rfl rfl Try.underlying103 (sz:=1) (by kernel_rfl) (by omega) (by omega)) (by simp only [ls,lz];exact rfl) ?_
       refine wpStill_nil ?_
       refine ZY rfl rfl (ZR (v:=.int .i64 _) rfl rfl rfl rfl (by kernel_rfl) (hbj.cellAt i j _ (by omega) (by omega) (by omega)) (hbj.frozen _)) fun W4 hW4=>?_
       refine wpList_nil ?_
       replace hbj:=hbj.set' i j hW4 (by omega) (by omega) (by omega)
       replace Hqj:=Lib.hid (Z5u hW4 Hqj.out (Ne.symm hnb))
       replace Ej:=Ej.set' hW4 (by simp)
       clear hW4
       have Hbj:=Lib.hid hbj;clear hbj
       go_wp2
       go_roundw
       case rel=>exact ⟨j + 1,by omega,by go_num,Hbj.out,Hqj.out,Ej⟩
       case measure=>simp [intOf];omega
      ·obtain rfl:j = 13:=by omega
       have c:=hbj.cell i i (by omega) (by omega)
       by_cases hneg:Z1w mi k i 13 i i < 0
       ·go_wp2
        refine hpanic.out ?_ _ _ rfl Ej
        have h1:iTo mk k (i + 1) = none:=by simp only [iTo,Hmi.out,hneg,if_true]
        have h2:=Zbt h1 (i':=13) (by omega)
        have h3:kTo m (k + 1) = none:=by simp only [kTo,Hmk.out,h2]
        exact Zb4 h3 (by omega)
       ·have hneg':¬ Z1w mi k i 13 i i < 0:=hneg
        have h1:Hid (iTo mk k (i + 1) = some (Z1w mi k i 13)):=by show _ = _;simp only [iTo,Hmi.out,hneg',if_false]
        go_wp2
        go_roundw
        case rel=>exact ⟨i + 1,_,by omega,by go_num,h1.out,hbj,Hqj.out,Ej⟩
        case measure=>simp [intOf];omega
    ·obtain rfl:i = 13:=by omega
     have h1:Hid (kTo m (k + 1) = some mi):=by show _ = _;simp only [kTo,Hmk.out,Hmi.out]
     go_wp2
     go_roundw
     case rel=>exact ⟨k + 1,_,by omega,by go_num,h1.out,hbi,Hqi.out,Ei⟩
     case measure=>simp [intOf];omega
  ·obtain rfl:k = 13:=by omega
   have hbo:MatAt wr Bo 105 m:=⟨Hqk.out⟩
   have hr2:=Ek.keep hr (by simp;exact Ne.symm hne)
   have Hr2:=Lib.hid hr2;clear hr2
   cases he:eqM mk m
   ·have He:=Lib.hid he;clear he
    go_upto_region 17 with (fail)
    refine wp_region_lit ?_
    refine Z3 rfl rfl (ZP (cs:=Z0Y mk) rfl rfl Try.underlying105 rfl (Z2r mk) hbk.range) (by simp only [ls,lz];exact rfl) ?_
    refine Z3 rfl rfl (ZP (cs:=Z0Y m) rfl rfl Try.underlying105 rfl (Z2r m) hbo.range) (by simp only [ls,lz];exact rfl) ?_
    refine Z3 rfl rfl (Z6g (m:=mk) (m':=m) (b:=true) rfl (congrArg Value.agg (ZI mk)) (congrArg Value.agg (ZI m)) (by rw [He.out];rfl)) (by simp only [ls,lz];exact rfl) ?_
    refine wpList_nil ?_
    go_wp2
    refine wp_goto ?_
    exact hjump.out mk Hmk.out He.out _ hbk Ek _ _ _ _ _ _ _ _ _ _ _ _ _ _ _ _ _ _ _ _ _ _ _ _ _ _ _ _ _ _ _ _ _ _ _ _ _ _ _ _ _ _ _ _ _ _ _ _ _ _ _
   ·have He:=Lib.hid he;clear he
    go_upto_region 17 with (fail)
    refine wp_region_lit ?_
    refine Z3 rfl rfl (ZP (cs:=Z0Y mk) rfl rfl Try.underlying105 rfl (Z2r mk) hbk.range) (by simp only [ls,lz];exact rfl) ?_
    refine Z3 rfl rfl (ZP (cs:=Z0Y m) rfl rfl Try.underlying105 rfl (Z2r m) hbo.range) (by simp only [ls,lz];exact rfl) ?_
    refine Z3 rfl rfl (Z6g (m:=mk) (m':=m) (b:=false) rfl (congrArg Value.agg (ZI mk)) (congrArg Value.agg (ZI m)) (by rw [He.out];rfl)) (by simp only [ls,lz];exact rfl) ?_
    refine wpList_nil ?_
    go_upto_region 18 with (fail)
    refine wp_region_lit ?_
    refine Z3 rfl rfl (ZP (cs:=Z0Y mk) rfl rfl Try.underlying105 rfl (Z2r mk) hbk.range) (by simp only [ls,lz];exact rfl) ?_
    refine ZY rfl rfl (Zg (cs:=(Z0Y mk).toArray) rfl rfl rfl (by rw [List.size_toArray];exact Z2r mk) (all_oneCell_toArray (Z05 mk)) Hr2.out (by rw [hz,List.size_toArray,Z1a])) fun W5 hW5=>?_
    refine wpList_nil ?_
    have q5:W5.heap[Br]? = some (.cells (ZD mk) 105 (0,0)):=by
     rw [hW5,Z1e Hr2.out (by rw [hz,List.size_toArray,Z1a]),ZI]
    have E5:Ext [Bb,Br] w W5:=by rw [hW5];exact (Ek.mono (by simp)).setCells (fun _=>by simp) _ _
    clear hW5
    go_wp2
    exact hret.out mk Hmk.out He.out _ _ rfl rfl q5 E5
set_option maxRecDepth 100000 in
set_option maxHeartbeats 1000000 in
theorem Z7C (m:Nat → Nat → Int) (w:World) (hs:Z4W m) (hs2:∀ m',kTo m 13 = some m' → Z4W m' ∧ ∃ m'',kTo m' 13 = some m'' ∧ eqM m'' m' = true) :
  Calls Try.prog 132 #[.agg (ZD m)] w fun e w'=>Ext [] w w' ∧
   ((kTo m 13 = none ∧ e = .panicked [{ v:=.iface 163 (.agg #[]),recovered:=false }]) ∨ ∃ m',kTo m 13 = some m' ∧ e = .returned (.agg (ZD m'))):=by
 go_enter Try.func132,Try.ntmps132
 go_wp2_with fail
 have q0:MatAt ((w.alloc (.cells (ZD m) 105)).alloc (.cells Try.zeroCells105 105)) w.heap.size 105 m:=⟨Z1k (Z0V rfl)⟩
 have q1:((w.alloc (.cells (ZD m) 105)).alloc (.cells Try.zeroCells105 105)).heap[w.heap.size + 1]? = _:=Z0V (Z0N _ _).symm
 have E0:Ext [] w ((w.alloc (.cells (ZD m) 105)).alloc (.cells Try.zeroCells105 105)):=((Ext.refl _ _).alloc _).alloc _
 generalize (w.alloc (.cells (ZD m) 105)).alloc (.cells Try.zeroCells105 105) = W at q0 q1 E0 ⊢
 refine wp_scope_jumps (rest:=.seq .skip Z5a) 0 (fun a w'=>∃ m',kTo m 13 = some m' ∧ eqM m' m = false ∧ MatAt w' w.heap.size 105 m' ∧ Ext [w.heap.size] W w' ∧ ∃ x0 x3 x4 x5 x6 x7 x8 x9 x10 x11 x12 x13 x14 x15 x16 x17 x18 x19 x20 x21 x22 x23 x24 x25 x26 x27 x28 x29 x30 x31 x32 x33 x34 x35 x36 x37 x38 x39 x40 x41 x42 x43 x44 x45 x46 x47 x48 x49 x50 x51 x52:Value,a = ⟨(x0 :: .pointer (some ⟨w.heap.size,0,none⟩) :: .pointer (some ⟨w.heap.size + 1,0,none⟩) :: x3 :: x4 :: x5 :: x6 :: x7 :: x8 :: x9 :: x10 :: x11 :: x12 :: x13 :: x14 :: x15 :: x16 :: x17 :: x18 :: x19 :: x20 :: x21 :: x22 :: x23 :: x24 :: x25 :: x26 :: x27 :: x28 :: x29 :: x30 :: x31 :: x32 :: x33 :: x34 :: x35 :: x36 :: x37 :: x38 :: x39 :: x40 :: x41 :: x42 :: x43 :: x44 :: x45 :: x46 :: x47 :: x48 :: x49 :: x50 :: x51 :: x52 :: []).toArray,[]⟩) (fun _ _=>0) rfl ?_ ?_
 ·refine wp_seq_k fun K2 hK2=>?_
  refine wp_label ?_
  refine hK2 _ _ (Z4F _ m hs w.heap.size (w.heap.size + 1) W q0 _ Try.zeroCells105_size q1 (by omega) _ _ _ _ _ _ _ _ _ _ _ _ _ _ _ _ _ _ _ _ _ _ _ _ _ _ _ _ _ _ _ _ _ _ _ _ _ _ _ _ _ _ _ _ _ _ _ _ _ _ _ ?_ ?_ ?_)
  ·intro hn a w' hd hx
   exact ⟨hd,(E0.trans' hx (by simp)),.inl ⟨hn,rfl⟩⟩
  ·intro m' hm he w' hb' hx x0 x3 x4 x5 x6 x7 x8 x9 x10 x11 x12 x13 x14 x15 x16 x17 x18 x19 x20 x21 x22 x23 x24 x25 x26 x27 x28 x29 x30 x31 x32 x33 x34 x35 x36 x37 x38 x39 x40 x41 x42 x43 x44 x45 x46 x47 x48 x49 x50 x51 x52
   exact ⟨rfl,m',hm,he,hb',hx,x0,x3,x4,x5,x6,x7,x8,x9,x10,x11,x12,x13,x14,x15,x16,x17,x18,x19,x20,x21,x22,x23,x24,x25,x26,x27,x28,x29,x30,x31,x32,x33,x34,x35,x36,x37,x38,x39,x40,x41,x42,x43,x44,x45,x46,x47,x48,x49,x50,x51,x52,rfl⟩
  ·intro m' hm he a w' hd ht hq hx
   exact ⟨hd,_,Z2a rfl ht Try.underlying105 rfl (by rw [Zj];kernel_rfl) hq,E0.trans' hx (by simp),.inr ⟨m',hm,rfl⟩⟩
 ·rintro a w' ⟨m',hm,he,hb',hx,x0,x3,x4,x5,x6,x7,x8,x9,x10,x11,x12,x13,x14,x15,x16,x17,x18,x19,x20,x21,x22,x23,x24,x25,x26,x27,x28,x29,x30,x31,x32,x33,x34,x35,x36,x37,x38,x39,x40,x41,x42,x43,x44,x45,x46,x47,x48,x49,x50,x51,x52,rfl⟩
  obtain ⟨hs',m'',hm'',he'⟩:=hs2 m' hm
  have hq:=hx.keep q1 (by simp)
  refine wp_seq_k fun K2 hK2=>?_
  refine wp_skip ?_
  refine hK2 _ _ (Z4F _ m' hs' w.heap.size (w.heap.size + 1) w' hb' _ Try.zeroCells105_size hq (by omega) _ _ _ _ _ _ _ _ _ _ _ _ _ _ _ _ _ _ _ _ _ _ _ _ _ _ _ _ _ _ _ _ _ _ _ _ _ _ _ _ _ _ _ _ _ _ _ _ _ _ _ ?_ ?_ ?_)
  ·intro hn
   rw [hm''] at hn;cases hn
  ·intro m3 hm3 he3
   rw [hm''] at hm3;cases hm3;rw [he'] at he3;cases he3
  ·intro m3 hm3 he3 a w3 hd ht hq3 hx3
   have e3:ZD m3 = ZD m':=Z2F (Z91.1 he3)
   rw [e3] at hq3
   exact ⟨hd,_,Z2a rfl ht Try.underlying105 rfl (by rw [Zj];kernel_rfl) hq3,(E0.trans' hx (by simp)).trans' hx3 (by simp),.inr ⟨m',hm,rfl⟩⟩
theorem MatAt.congr {w:World} {b ty} {m m':Nat → Nat → Int} (h:MatAt w b ty m) (e:∀ i j,i < 13 → j < 13 → m i j = m' i j):MatAt w b ty m':=⟨by rw [← Z2F e];exact h.blk⟩
theorem Z0m {α:Type} {l:List α} {i:Nat} (d:α) (h:i < l.length):l.getD i d ∈ l:=by
 rw [List.getD_eq_getElem?_getD,List.getElem?_eq_getElem h];exact List.getElem_mem h
theorem Zas {P:Program} {ρ:Operand → Value} {o:Oper} {w:World} {t:TypeId} {parts:Array (Nat × Operand)} {cells:Array Value} (ho:o.op = .build t parts) (h:P.built t (parts.map fun (i,x)=>(i,ρ x)).toList = some cells):(execOp ρ o).run P w = .ok (.value (.agg cells)) w:=by
 unfold execOp
 simp [ho,run_build w t _ cells h]
theorem Z8I {α:Type} {w w' W:World} {xs:List α} {row:α → List Value} {a:Option Addr} {n cap sz:Nat} (d:α) (h:Z0E w (.slice a n cap) sz (xs.map row)) (E0:Ext [] w W) {N:Nat} (hN:w.heap.size ≤ N) (e:Ext [N] W w') {i:Nat} (hi:i < xs.length) :
  ∃ b off,(∀ m c,Value.slice a m c = .slice (some ⟨b,off,none⟩) m c) ∧ w'.rangeAt b (off + i * sz) (row (xs.getD i d)):=by
 have hne:xs.map row ≠ []:=by
  intro h;have:=congrArg List.length h;simp at this;rw [this] at hi;simp at hi
 obtain ⟨b,off,ha,hb,hr⟩:=h.range rfl hne
 refine ⟨b,off,fun _ _=>by rw [ha],fun j u hu=>?_⟩
 have h0:=hr i (row (xs.getD i d)) (by simp [hi]) j u hu
 have e2:Ext [N] w w':=(E0.mono (by simp)).trans e
 rw [e2.cell (a:=⟨b,off + i * sz + j,none⟩) hb (by simp;omega)]
 exact h0
def fM (i k:Nat):Nat → Nat → Int:=fun p q=>if (p < i ∨ (p = i ∧ q < k)) ∧ p ≠ q then 1048576 else 0
theorem Zbg {i k:Nat} (h:i ≠ k):upd (fM i k) i k 1048576 = fM i (k + 1):=by
 funext p q
 unfold upd fM
 by_cases e:p = i ∧ q = k
 ·obtain ⟨rfl,rfl⟩:=e
  rw [if_pos ⟨rfl,rfl⟩,if_pos ⟨by omega,h⟩]
 ·rw [if_neg e]
  by_cases c:(p < i ∨ (p = i ∧ q < k)) ∧ p ≠ q
  ·rw [if_pos c,if_pos ⟨by omega,c.2⟩]
  ·rw [if_neg c,if_neg (by omega)]
theorem Zaz {i:Nat}:fM i i = fM i (i + 1):=by
 funext p q
 unfold fM
 by_cases c:(p < i ∨ (p = i ∧ q < i)) ∧ p ≠ q
 ·rw [if_pos c,if_pos ⟨by omega,c.2⟩]
 ·rw [if_neg c,if_neg (by omega)]
set_option maxRecDepth 100000 in
set_option maxHeartbeats 1000000 in
theorem Z94 (t:Tp) (ok:t.Ok) (gv rv lv:Value) (out:Int) (ho1:0 ≤ out) (ho2:out < 65536) (w:World) (ht:IsTp w gv rv lv t) :
  Calls Try.prog 133 #[tpV t gv rv lv,.int .u16 out] w fun e w'=>e = .returned (.agg (ZD (Z0D t out))) ∧ Ext [] w w':=by
 unfold tpV
 obtain ⟨ra,rcap,hrv,-,-⟩:=id ht.rd
 rw [List.length_map] at hrv
 subst hrv
 obtain ⟨la,lcap,hlv,-,-⟩:=id ht.lk
 rw [List.length_map] at hlv
 subst hlv
 obtain ⟨ga,gcap,hgv,-,-⟩:=id ht.gr
 have hgl:=ok.grl
 have hS1:=ok.S1
 have hgne:t.gr.map Z0K ≠ []:=by
  intro h;have:=congrArg List.length h;simp at this;rw [this] at hgl;simp at hgl;omega
 obtain ⟨gb,goff,rfl,hgb,hgr⟩:=ht.gr.range hgv hgne
 rw [List.length_map] at hgv
 subst hgv
 have Hgl:=Lib.hid hgl;clear hgl hS1 hgne
 have Hgr:=Lib.hid hgr;clear hgr
 have Hgb:=Lib.hid hgb;clear hgb
 have Hok:=Lib.hid ok;clear ok
 have Ht:=Lib.hid ht;clear ht
 go_enter Try.func133,Try.ntmps133
 go_wp2_with fail
 have q0:(((w.alloc (.cells #[.int .i64 t.S,.int .i64 t.A,.int .i64 t.T,.int .i64 t.bl,.int .i64 t.bm,.int .i64 t.pl,.int .i64 t.pm,.int .i64 t.sl,.slice (some ⟨gb,goff,none⟩) t.gr.length gcap,.slice ra t.rd.length rcap,.slice la t.lk.length lcap] 100)).alloc (.cells Try.zeroCells105 105)).alloc (.cells Try.zeroCells105 105)).heap[w.heap.size]? = _:=Z1k (Z1k (Z0V rfl))
 have q1:(((w.alloc (.cells #[.int .i64 t.S,.int .i64 t.A,.int .i64 t.T,.int .i64 t.bl,.int .i64 t.bm,.int .i64 t.pl,.int .i64 t.pm,.int .i64 t.sl,.slice (some ⟨gb,goff,none⟩) t.gr.length gcap,.slice ra t.rd.length rcap,.slice la t.lk.length lcap] 100)).alloc (.cells Try.zeroCells105 105)).alloc (.cells Try.zeroCells105 105)).heap[w.heap.size + 1]? = _:=Z1k (Z0V (Z0N _ _).symm)
 have b0:MatAt (((w.alloc (.cells #[.int .i64 t.S,.int .i64 t.A,.int .i64 t.T,.int .i64 t.bl,.int .i64 t.bm,.int .i64 t.pl,.int .i64 t.pm,.int .i64 t.sl,.slice (some ⟨gb,goff,none⟩) t.gr.length gcap,.slice ra t.rd.length rcap,.slice la t.lk.length lcap] 100)).alloc (.cells Try.zeroCells105 105)).alloc (.cells Try.zeroCells105 105)) (w.heap.size + 1 + 1) 105 (fM 0 0):=⟨by rw [show ZD (fM 0 0) = Try.zeroCells105 from (Z2F fun i j _ _=>by simp [fM]).trans Z8Q.symm];exact Z0V (by rw [Z0N,Z0N])⟩
 have E0:Ext [] w (((w.alloc (.cells #[.int .i64 t.S,.int .i64 t.A,.int .i64 t.T,.int .i64 t.bl,.int .i64 t.bm,.int .i64 t.pl,.int .i64 t.pm,.int .i64 t.sl,.slice (some ⟨gb,goff,none⟩) t.gr.length gcap,.slice ra t.rd.length rcap,.slice la t.lk.length lcap] 100)).alloc (.cells Try.zeroCells105 105)).alloc (.cells Try.zeroCells105 105)):=(((Ext.refl _ _).alloc _).alloc _).alloc _
 generalize ((w.alloc (.cells #[.int .i64 t.S,.int .i64 t.A,.int .i64 t.T,.int .i64 t.bl,.int .i64 t.bm,.int .i64 t.pl,.int .i64 t.pm,.int .i64 t.sl,.slice (some ⟨gb,goff,none⟩) t.gr.length gcap,.slice ra t.rd.length rcap,.slice la t.lk.length lcap] 100)).alloc (.cells Try.zeroCells105 105)).alloc (.cells Try.zeroCells105 105) = W at q0 q1 b0 E0 ⊢
 have Q0:=Lib.hid q0;clear q0
 have Q1:=Lib.hid q1;clear q1
 generalize hN0:w.heap.size = N0 at Q0 Q1 b0 ⊢
 have HN0:=Lib.hid hN0;clear hN0
 have Hrow:Hid (∀ w':World,Ext [N0 + 1 + 1] W w' → ∀ i:Nat,i < t.gr.length → w'.rangeAt gb (goff + i * 2) [.int .i64 (t.gr.getD i (0,0)).1,.int .i64 (t.gr.getD i (0,0)).2]):=by
  intro w' e i hi j u hu
  have hx:(t.gr.map Z0K)[i]? = some [.int .i64 (t.gr.getD i (0,0)).1,.int .i64 (t.gr.getD i (0,0)).2]:=by
   simp [Z0K,hi]
  have h0:=Hgr.out i _ hx j u hu
  have e2:Ext [N0 + 1 + 1] w w':=(E0.mono (by simp)).trans e
  rw [e2.cell (a:=⟨gb,goff + i * 2 + j,none⟩) Hgb.out (by have:=Hgb.out;have:=HN0.out;simp;omega)]
  exact h0
 have Hrd:Hid (∀ w':World,Ext [N0 + 1 + 1] W w' → ∀ i:Nat,i < t.rd.length → ∃ b off,(∀ m c,Value.slice ra m c = .slice (some ⟨b,off,none⟩) m c) ∧ w'.rangeAt b (off + i * 4) (Z0B (t.rd.getD i (0,0,0,0)))):=
  fun w' e i hi=>Z8I _ Ht.out.rd E0 (by have:=HN0.out;omega) e hi
 have Hlk:Hid (∀ w':World,Ext [N0 + 1 + 1] W w' → ∀ i:Nat,i < t.lk.length → ∃ b off,(∀ m c,Value.slice la m c = .slice (some ⟨b,off,none⟩) m c) ∧ w'.rangeAt b (off + i * 6) (Z0L (t.lk.getD i (0,0,0,0,0,0)))):=
  fun w' e i hi=>Z8I _ Ht.out.lk E0 (by have:=HN0.out;omega) e hi
 have nin:Hid (N0 ∉ [N0 + 1 + 1]):=by show _ ∉ _;simp;omega
 go_loopw [15] (fun iv wr=>∃ i:Nat,i ≤ 13 ∧ iv = .int .i64 i ∧ MatAt wr (N0 + 1 + 1) 105 (fM i 0) ∧ Ext [N0 + 1 + 1] W wr) (fun iv _=>13 - (intOf iv).toNat)
 case atStart=>exact ⟨0,Nat.zero_le _,rfl,b0,Ext.refl _ _⟩
 case round =>
  obtain ⟨i,hi,rfl,hb,Ei⟩:=hrel
  by_cases hlt:i < 13
  ·go_wp2_with fail
   obtain ⟨wi,rfl⟩:∃ wi:World,wi = wr:=⟨_,rfl⟩
   go_loopw [18] (fun kv wr=>∃ k:Nat,k ≤ 13 ∧ kv = .int .i64 k ∧ MatAt wr (N0 + 1 + 1) 105 (fM i k) ∧ Ext [N0 + 1 + 1] W wr) (fun kv _=>13 - (intOf kv).toNat)
   case atStart=>exact ⟨0,Nat.zero_le _,rfl,hb,Ei⟩
   case round =>
    obtain ⟨k,hk,rfl,hbk,Ek⟩:=hrel
    by_cases hltk:k < 13
    ·by_cases hik:i = k
     ·subst hik
      have hne:(((i:Int)) != (i:Int)) = false:=by simp
      have h2:Hid (MatAt wr (N0 + 1 + 1) 105 (fM i (i + 1))):=by show MatAt _ _ _ _;rw [← Zaz];exact hbk
      go_wp2
      go_roundw
      case rel=>exact ⟨i + 1,by omega,by go_num,h2.out,Ek⟩
      case measure=>simp [intOf];omega
     ·have hne:(((i:Int)) != (k:Int)) = true:=by rw [bne_iff_ne];omega
      have c:=hbk.cell i k (by omega) (by omega)
      have f:=hbk.frozen (i * 13 + k)
      have h2:Hid (MatAt (wr.setCell ⟨N0 + 1 + 1,i * 13 + k,none⟩ (.int .i64 1048576)) (N0 + 1 + 1) 105 (fM i (k + 1))):=by
       show MatAt _ _ _ _
       rw [← Zbg hik];exact hbk.set i k (by omega) (by omega) _
      have h3:Hid (Ext [N0 + 1 + 1] W (wr.setCell ⟨N0 + 1 + 1,i * 13 + k,none⟩ (.int .i64 1048576))):=Ek.setCell (by simp) _
      go_wp2
      go_roundw
      case rel=>exact ⟨k + 1,by omega,by go_num,h2.out,h3.out⟩
      case measure=>simp [intOf];omega
    ·obtain rfl:k = 13:=by omega
     have h2:Hid (MatAt wr (N0 + 1 + 1) 105 (fM (i + 1) 0)):=hbk.congr fun p q hp hq=>by unfold fM;by_cases c:(p < i ∨ (p = i ∧ q < 13)) ∧ p ≠ q;(rw [if_pos c,if_pos ⟨by omega,c.2⟩]);(rw [if_neg c,if_neg (by omega)])
     go_wp2
     go_roundw
     case rel=>exact ⟨i + 1,by omega,by go_num,h2.out,Ek⟩
     case measure=>simp [intOf];omega
  ·obtain rfl:i = 13:=by omega
   have Q0w:=Lib.hid (Ei.keep Q0.out nin.out)
   have c0:=(Z0 Q0w.out 0).trans rfl
   have hb1:MatAt wr (N0 + 1 + 1) 105 farM:=hb.congr fun p q hp hq=>by
    unfold fM farM
    by_cases c:p = q
    ·rw [if_neg (by omega),if_pos c]
    ·rw [if_pos ⟨by omega,c⟩,if_neg c]
   clear hb
   go_wp2_with fail
   obtain ⟨w1,rfl⟩:∃ w1:World,w1 = wr:=⟨_,rfl⟩
   clear c0 Q0w
   go_loopw [33] (fun sv wr=>∃ s:Nat,s ≤ t.S.toNat ∧ sv = .int .i64 s ∧ MatAt wr (N0 + 1 + 1) 105 (Z1F t farM s) ∧ Ext [N0 + 1 + 1] W wr) (fun sv _=>t.S.toNat - (intOf sv).toNat)
   case atStart=>exact ⟨0,Nat.zero_le _,rfl,hb1,Ei⟩
   case round =>
    obtain ⟨s,hs,rfl,hbs,Es⟩:=hrel
    have o1:=Hok.out.S1
    have o2:=Hok.out.S3
    by_cases hlts:(s:Int) < t.S
    ·have Q0s:=Lib.hid (Es.keep Q0.out nin.out)
     have c1:=(Z0 Q0s.out 1).trans rfl
     go_wp2_with fail
     obtain ⟨ws,rfl⟩:∃ ws:World,ws = wr:=⟨_,rfl⟩
     clear c1 Q0s
     go_loopw [39] (fun av wr=>∃ a:Nat,a ≤ t.A.toNat ∧ av = .int .i64 a ∧ MatAt wr (N0 + 1 + 1) 105 (Z29 t (Z1F t farM s) s a) ∧ Ext [N0 + 1 + 1] W wr) (fun av _=>t.A.toNat - (intOf av).toNat)
     case atStart=>exact ⟨0,Nat.zero_le _,rfl,hbs,Es⟩
     case round =>
      obtain ⟨a,ha,rfl,hba,Ea⟩:=hrel
      have o3:=Hok.out.A1
      have o4:=Hok.out.A3
      have o5:=Hok.out.bl1
      have o6:=Hok.out.bm1
      have o7:=Hok.out.b
      by_cases hlta:(a:Int) < t.A
      ·go_upto_region 18 with (fail)
       refine Z0g 6 follows (by kernel_rfl) fun W3 hW3 eW3=>?_
       replace hba:=hba.same hW3
       replace Ea:=Ea.nil eW3
       have Q0a:=Lib.hid (Ea.keep Q0.out nin.out)
       clear hW3 eW3
       refine Zp rfl rfl (Zi (v:=.int .i64 _) rfl rfl) (by simp only [ls,lz];exact rfl) ?_
       refine Zp rfl rfl (Zi (v:=.int .i64 _) rfl rfl) (by simp only [ls,lz];exact rfl) ?_
       refine Z0Z rfl rfl (by kernel_rfl) (Z1W s a _ (by omega) (by omega) (by omega) (by omega)) (by simp only [ls,lz];exact rfl) ?_
       refine Zp rfl rfl (Z06 rfl rfl Try.underlying100 rfl (n:=0) (sz:=11) rfl (by kernel_rfl) (by decide)) (by simp only [ls,lz];exact rfl) ?_
       refine Zp rfl rfl (Z06 rfl rfl Try.underlying28 rfl (n:=3) (sz:=2) rfl (by kernel_rfl) (by decide)) (by simp only [ls,lz];exact rfl) ?_
       refine Zp rfl rfl (ZP (cs:=[.int .i64 t.bl,.int .i64 t.bm]) rfl rfl Try.underlying23 rfl (by kernel_rfl) (Z66 Q0a.out (fun j v h=>by rcases j with _ | _ | j <;> simp_all))) (by simp only [ls,lz];exact rfl) ?_
       refine wpStill_nil ?_
       refine ZC rfl rfl (by kernel_rfl) (Z36 _ (N0 + 1 + 1) 0 (1 + (s:Int) * 3 + a) t.bl t.bm _ hba (by omega) (by omega) (by omega) (by omega) (by omega) (by omega)) fun e w' hR=>?_;obtain ⟨rfl,hba',e'⟩:=hR;refine ⟨_,_,rfl,(by simp only [ls,lz];exact rfl),?_⟩
       refine wpList_nil ?_
       replace Ea:=Ea.trans e'
       clear e' hba
       by_cases h0a:(0:Int) < (a:Int)
       ·go_upto_region 20 with (fail)
        have g1:=Hok.out.gr (t.gr.getD s (0,0)) (Z0m _ (by have:=Hgl.out;omega))
        refine Z0g 13 follows (by kernel_rfl) fun W4 hW4 eW4=>?_
        replace hba':=hba'.same hW4
        replace Ea:=Ea.nil eW4
        have Q0b:=Lib.hid (Ea.keep Q0.out nin.out)
        have hgl2:=Hgl.out
        have Hr2:=Lib.hid (Hrow.out W4 Ea s (by have:=Hgl.out;omega))
        clear hW4 eW4
        refine Zp rfl rfl (Zi (v:=.int .i64 _) rfl rfl) (by simp only [ls,lz];exact rfl) ?_
        refine Zp rfl rfl (Zi (v:=.int .i64 _) rfl rfl) (by simp only [ls,lz];exact rfl) ?_
        refine Zp rfl rfl (Z1I rfl rfl rfl (by omega) (by omega)) (by simp only [ls,lz];exact rfl) ?_
        refine Z0Z rfl rfl (by kernel_rfl) (Z1W s ((a:Int) - 1) _ (by omega) (by omega) (by omega) (by omega)) (by simp only [ls,lz];exact rfl) ?_
        refine Zp rfl rfl (Zi (v:=.int .i64 _) rfl rfl) (by simp only [ls,lz];exact rfl) ?_
        refine Zp rfl rfl (Zi (v:=.int .i64 _) rfl rfl) (by simp only [ls,lz];exact rfl) ?_
        refine Z0Z rfl rfl (by kernel_rfl) (Z1W s a _ (by omega) (by omega) (by omega) (by omega)) (by simp only [ls,lz];exact rfl) ?_
        refine Zp rfl rfl (Z06 rfl rfl Try.underlying100 rfl (n:=0) (sz:=11) rfl (by kernel_rfl) (by decide)) (by simp only [ls,lz];exact rfl) ?_
        refine Zp rfl rfl (Z06 rfl rfl Try.underlying28 rfl (n:=8) (sz:=1) rfl (by kernel_rfl) (by decide)) (by simp only [ls,lz];exact rfl) ?_
        refine Zp rfl rfl (Zh rfl rfl Try.underlying24 rfl ((Z0 Q0b.out 8).trans rfl)) (by simp only [ls,lz];exact rfl) ?_
        refine Zp rfl rfl (Zi (v:=.int .i64 _) rfl rfl) (by simp only [ls,lz];exact rfl) ?_
        refine Zp rfl rfl (ZJ rfl rfl rfl Try.underlying24 (sz:=2) (by kernel_rfl) (by omega) (by omega)) (by simp only [ls,lz];exact rfl) ?_
        refine Zp rfl rfl (ZP (cs:=[.int .i64 (t.gr.getD s (0,0)).1,.int .i64 (t.gr.getD s (0,0)).2]) rfl rfl Try.underlying23 rfl (by kernel_rfl) Hr2.out) (by simp only [ls,lz];exact rfl) ?_
        refine wpStill_nil ?_
        refine ZC rfl rfl (by kernel_rfl) (Z36 _ (N0 + 1 + 1) (1 + (s:Int) * 3 + ((a:Int) - 1)) (1 + (s:Int) * 3 + a) (t.gr.getD s (0,0)).1 (t.gr.getD s (0,0)).2 _ hba' (by omega) (by omega) (by omega) (by omega) (by omega) (by omega)) fun e w' hR=>?_;obtain ⟨rfl,hbb,e2⟩:=hR;refine ⟨_,_,rfl,(by simp only [ls,lz];exact rfl),?_⟩
        refine wpList_nil ?_
        replace Ea:=Ea.trans e2
        clear e2 hgl2
        go_wp2
        go_roundw
        case rel=>exact ⟨a + 1,by omega,by go_num,by unfold Z29;rw [if_pos h0a];exact hbb,Ea⟩
        case measure=>simp [intOf];omega
       ·go_wp2
        go_roundw
        case rel=>exact ⟨a + 1,by omega,by go_num,by unfold Z29;rw [if_neg h0a];exact hba',Ea⟩
        case measure=>simp [intOf];omega
      ·go_wp2
       go_roundw
       case rel=>exact ⟨s + 1,by omega,by go_num,by unfold Z1F;rw [← show a = t.A.toNat by omega];exact hba,Ea⟩
       case measure=>simp [intOf];omega
    ·have hs':s = t.S.toNat:=by omega
     have hb2:MatAt wr (N0 + 1 + 1) 105 (Z1F t farM t.S.toNat):=by rw [← hs'];exact hbs
     clear hbs hs' hs
     have Q0t:=Lib.hid (Es.keep Q0.out nin.out)
     have c2:=(Z0 Q0t.out 2).trans rfl
     go_wp2_with fail
     obtain ⟨w2,rfl⟩:∃ w2:World,w2 = wr:=⟨_,rfl⟩
     clear c2 Q0t
     go_loopw [70] (fun tv wr=>∃ i:Nat,i ≤ t.T.toNat ∧ tv = .int .i64 i ∧ MatAt wr (N0 + 1 + 1) 105 (Z28 t (Z1F t farM t.S.toNat) i) ∧ Ext [N0 + 1 + 1] W wr) (fun tv _=>t.T.toNat - (intOf tv).toNat)
     case atStart=>exact ⟨0,Nat.zero_le _,rfl,hb2,Es⟩
     case round =>
      obtain ⟨i,hi,rfl,hbt,Et⟩:=hrel
      have o3:=Hok.out.T1
      have o4:=Hok.out.T3
      have o5:=Hok.out.pl1
      have o6:=Hok.out.pm1
      have o7:=Hok.out.p
      by_cases hltt:(i:Int) < t.T
      ·go_upto_region 26 with (fail)
       refine Z0g 13 follows (by kernel_rfl) fun W5 hW5 eW5=>?_
       replace hbt:=hbt.same hW5
       replace Et:=Et.nil eW5
       have Q0a:=Lib.hid (Et.keep Q0.out nin.out)
       clear hW5 eW5
       refine Zp rfl rfl (Zi (v:=.int .i64 _) rfl rfl) (by simp only [ls,lz];exact rfl) ?_
       refine Z0Z rfl rfl (by kernel_rfl) (Z5k i _ (by omega) (by omega)) (by simp only [ls,lz];exact rfl) ?_
       refine Zp rfl rfl (Z06 rfl rfl Try.underlying100 rfl (n:=0) (sz:=11) rfl (by kernel_rfl) (by decide)) (by simp only [ls,lz];exact rfl) ?_
       refine Zp rfl rfl (Z06 rfl rfl Try.underlying28 rfl (n:=5) (sz:=2) rfl (by kernel_rfl) (by decide)) (by simp only [ls,lz];exact rfl) ?_
       refine Zp rfl rfl (Z06 rfl rfl Try.underlying23 rfl (n:=1) (sz:=1) rfl (by kernel_rfl) (by decide)) (by simp only [ls,lz];exact rfl) ?_
       refine Zp rfl rfl (Zh rfl rfl Try.underlying3 rfl ((Z0 Q0a.out 6).trans rfl)) (by simp only [ls,lz];exact rfl) ?_
       refine Zp rfl rfl (Z6D rfl rfl (by omega) (by omega)) (by simp only [ls,lz];exact rfl) ?_
       refine Zp rfl rfl (Z06 rfl rfl Try.underlying100 rfl (n:=0) (sz:=11) rfl (by kernel_rfl) (by decide)) (by simp only [ls,lz];exact rfl) ?_
       refine Zp rfl rfl (Z06 rfl rfl Try.underlying28 rfl (n:=5) (sz:=2) rfl (by kernel_rfl) (by decide)) (by simp only [ls,lz];exact rfl) ?_
       refine Zp rfl rfl (Z06 rfl rfl Try.underlying23 rfl (n:=0) (sz:=1) rfl (by kernel_rfl) (by decide)) (by simp only [ls,lz];exact rfl) ?_
       refine Zp rfl rfl (Zh rfl rfl Try.underlying3 rfl ((Z0 Q0a.out 5).trans rfl)) (by simp only [ls,lz];exact rfl) ?_
       refine Zp rfl rfl (Z6D rfl rfl (by omega) (by omega)) (by simp only [ls,lz];exact rfl) ?_
       refine Zp rfl rfl (Zas rfl (cells:=#[.int .i64 (-t.pm),.int .i64 (-t.pl)]) (by kernel_rfl)) (by simp only [ls,lz];exact rfl) ?_
       refine wpStill_nil ?_
       refine ZC rfl rfl (by kernel_rfl) (Z36 _ (N0 + 1 + 1) 0 (10 + (i:Int)) (-t.pm) (-t.pl) _ hbt (by omega) (by omega) (by omega) (by omega) (by omega) (by omega)) fun e w' hR=>?_;obtain ⟨rfl,hbt',e'⟩:=hR;refine ⟨_,_,rfl,(by simp only [ls,lz];exact rfl),?_⟩
       refine wpList_nil ?_
       replace Et:=Et.trans e'
       clear e' hbt
       go_wp2
       go_roundw
       case rel=>exact ⟨i + 1,by omega,by go_num,hbt',Et⟩
       case measure=>simp [intOf];omega
      ·have hi':i = t.T.toNat:=by omega
       have hb3:MatAt wr (N0 + 1 + 1) 105 (Z28 t (Z1F t farM t.S.toNat) t.T.toNat):=by rw [← hi'];exact hbt
       clear hbt hi' hi
       have Q0r:=Lib.hid (Et.keep Q0.out nin.out)
       have c3:=(Z0 Q0r.out 9).trans rfl
       go_wp2_with fail
       obtain ⟨w3,rfl⟩:∃ w3:World,w3 = wr:=⟨_,rfl⟩
       clear c3 Q0r
       go_loopw [92] (fun jv wr=>∃ j:Nat,j ≤ t.rd.length ∧ jv = .int .i64 j ∧ MatAt wr (N0 + 1 + 1) 105 (Z1P t out (Z28 t (Z1F t farM t.S.toNat) t.T.toNat) j) ∧ Ext [N0 + 1 + 1] W wr) (fun jv _=>t.rd.length - (intOf jv).toNat)
       case atStart=>exact ⟨0,Nat.zero_le _,rfl,hb3,Et⟩
       case round =>
        obtain ⟨j,hj,rfl,hbr,Er⟩:=hrel
        have o8:=Hok.out.rdl
        by_cases hltr:(j:Int) < (t.rd.length:Int)
        ·go_upto_region 30 with (fail)
         obtain ⟨rb,roff,hra,hrr⟩:=Hrd.out wr Er j (by omega)
         have g1:=Hok.out.rd (t.rd.getD j (0,0,0,0)) (Z0m _ (by omega))
         have g2:=Hok.out.sl0
         have g3:=Hok.out.sl5
         have g4:=Hok.out.S3
         have g5:=Hok.out.A3
         have g6:=Hok.out.T3
         have hB2:=hbr.lt
         have hWs:=Er.size
         refine wp_region_lit ?_
         refine Z3 rfl rfl (Zi (v:=.int .i64 _) rfl rfl) (by simp only [ls,lz];exact rfl) ?_
         refine Z3 rfl rfl (ZJ (sz:=4) rfl (hra t.rd.length rcap) rfl Try.underlying25 (by kernel_rfl) (by omega) (by omega)) (by simp only [ls,lz];exact rfl) ?_
         refine Z3 rfl rfl (ZP (cs:=Z0B (t.rd.getD j (0,0,0,0))) rfl rfl Try.underlying66 rfl (by kernel_rfl) hrr) (by simp only [ls,lz];exact rfl) ?_
         refine Zy rfl rfl (ZB rfl Try.zeroValue66) (by simp only [ls,lz];exact rfl) fun W6 hW6=>?_
         have q6:=(congrArg (fun x:World=>x.heap[wr.heap.size]?) hW6).trans (Z0V rfl)
         have m6:MatAt W6 (N0 + 1 + 1) 105 _:=hW6 ▸ hbr.alloc _
         have E6:Ext [N0 + 1 + 1] W W6:=hW6 ▸ Er.alloc _
         refine Z3 rfl rfl (Z8 (v:=.int .i64 _) rfl rfl) (by simp only [ls,lz];exact rfl) ?_
         refine ZY rfl rfl (Zg (cs:=(Z0B (t.rd.getD j (0,0,0,0))).toArray) rfl rfl rfl (by kernel_rfl) (by simp [Z0B,Value.oneCell']) q6 (by rfl)) fun W7 hW7=>?_
         refine wpList_nil ?_
         have q7:W7.heap[wr.heap.size]? = some (.cells (Z0B (t.rd.getD j (0,0,0,0))).toArray 66 (0,0)):=by rw [hW7];exact Z1e q6 rfl
         have m7:MatAt W7 (N0 + 1 + 1) 105 (Z1P t out (Z28 t (Z1F t farM t.S.toNat) t.T.toNat) j):=⟨by rw [hW7,Z1b _ _ _ _ _ (by omega)];exact m6.blk⟩
         have E7:Ext [N0 + 1 + 1] W W7:=by rw [hW7];exact E6.setCells (fun h=>by omega) _ _
         clear hW7 E6 m6 q6 hW6 hrr
         generalize wr.heap.size = R0 at q7 hB2 hWs ⊢
         go_upto_region 31 with (fail)
         refine wp_region_lit ?_
         refine Z3 rfl rfl (Zi (v:=.int .u16 _) rfl rfl) (by simp only [ls,lz];exact rfl) ?_
         refine Z3 rfl rfl (Zi (v:=.int .i64 _) rfl rfl) (by simp only [ls,lz];exact rfl) ?_
         refine ZC rfl rfl (by kernel_rfl) (Z9e out j _ ho1 ho2 (by omega) (by omega)) fun e w' hR=>?_;obtain ⟨rfl,rfl⟩:=hR;refine ⟨_,_,rfl,(by simp only [ls,lz];exact rfl),?_⟩
         refine Z3 rfl rfl (Z45 rfl rfl) (by simp only [ls,lz];exact rfl) ?_
         refine wpList_nil ?_
         rw [Int.toNat_natCast]
         by_cases hh:hasB out j = true
         ·rw [hh]
          have h2:Hid (MatAt W7 (N0 + 1 + 1) 105 (Z1P t out (Z28 t (Z1F t farM t.S.toNat) t.T.toNat) (j + 1))):=by show MatAt _ _ _ _;unfold Z1P;rw [if_pos hh];exact m7
          go_wp2
          go_roundw
          case rel=>exact ⟨j + 1,by omega,by go_num,h2.out,E7⟩
          case measure=>simp [intOf];omega
         ·rw [Bool.not_eq_true] at hh
          rw [hh]
          go_upto_region 32 with (fail)
          refine Z0g 13 follows (by kernel_rfl) fun W8 hW8 eW8=>?_
          replace m7:=m7.same hW8
          replace E7:=E7.nil eW8
          have Q0c:=Lib.hid (E7.keep Q0.out nin.out)
          replace q7:=Zn hW8 q7
          clear hW8 eW8
          refine Zp rfl rfl (Z06 rfl rfl Try.underlying66 rfl (n:=2) (sz:=1) rfl (by kernel_rfl) (by decide)) (by simp only [ls,lz];exact rfl) ?_
          refine Zp rfl rfl (Zh rfl rfl Try.underlying3 rfl ((Z0 q7 2).trans rfl)) (by simp only [ls,lz];exact rfl) ?_
          refine Z0Z rfl rfl (by kernel_rfl) (Z5k (t.rd.getD j (0,0,0,0)).2.2.1 _ (by omega) (by omega)) (by simp only [ls,lz];exact rfl) ?_
          refine Zp rfl rfl (Z06 rfl rfl Try.underlying66 rfl (n:=0) (sz:=1) rfl (by kernel_rfl) (by decide)) (by simp only [ls,lz];exact rfl) ?_
          refine Zp rfl rfl (Zh rfl rfl Try.underlying3 rfl ((Z0 q7 0).trans rfl)) (by simp only [ls,lz];exact rfl) ?_
          refine Zp rfl rfl (Z06 rfl rfl Try.underlying66 rfl (n:=1) (sz:=1) rfl (by kernel_rfl) (by decide)) (by simp only [ls,lz];exact rfl) ?_
          refine Zp rfl rfl (Zh rfl rfl Try.underlying3 rfl ((Z0 q7 1).trans rfl)) (by simp only [ls,lz];exact rfl) ?_
          refine Z0Z rfl rfl (by kernel_rfl) (Z1W (t.rd.getD j (0,0,0,0)).1 (t.rd.getD j (0,0,0,0)).2.1 _ (by omega) (by omega) (by omega) (by omega)) (by simp only [ls,lz];exact rfl) ?_
          refine Zp rfl rfl (Z06 rfl rfl Try.underlying66 rfl (n:=3) (sz:=1) rfl (by kernel_rfl) (by decide)) (by simp only [ls,lz];exact rfl) ?_
          refine Zp rfl rfl (Zh rfl rfl Try.underlying3 rfl ((Z0 q7 3).trans rfl)) (by simp only [ls,lz];exact rfl) ?_
          refine Zp rfl rfl (Z06 rfl rfl Try.underlying100 rfl (n:=0) (sz:=11) rfl (by kernel_rfl) (by decide)) (by simp only [ls,lz];exact rfl) ?_
          refine Zp rfl rfl (Z06 rfl rfl Try.underlying28 rfl (n:=7) (sz:=1) rfl (by kernel_rfl) (by decide)) (by simp only [ls,lz];exact rfl) ?_
          refine Zp rfl rfl (Zh rfl rfl Try.underlying3 rfl ((Z0 Q0c.out 7).trans rfl)) (by simp only [ls,lz];exact rfl) ?_
          refine wpStill_nil ?_
          refine ZC rfl rfl (by kernel_rfl) (Z7K (t.rd.getD j (0,0,0,0)).2.2.2 t.sl _ (by omega) (by omega) (by omega) (by omega)) fun e w' hR=>?_;obtain ⟨rfl,hB8⟩:=hR;refine ⟨_,_,rfl,(by simp only [ls,lz];exact rfl),?_⟩
          have m8:MatAt w' (N0 + 1 + 1) 105 _:=⟨(Ext.of_below hB8).keep0 m7.blk⟩
          replace E7:=E7.nil (Ext.of_below hB8)
          clear hB8
          refine ZC rfl rfl (by kernel_rfl) (Z36 _ (N0 + 1 + 1) (10 + (t.rd.getD j (0,0,0,0)).2.2.1) (1 + (t.rd.getD j (0,0,0,0)).1 * 3 + (t.rd.getD j (0,0,0,0)).2.1) ((t.rd.getD j (0,0,0,0)).2.2.2 - t.sl) ((t.rd.getD j (0,0,0,0)).2.2.2 + t.sl) _ m8 (by omega) (by omega) (by omega) (by omega) (by omega) (by omega)) fun e w9 hR=>?_
          obtain ⟨rfl,m9,e9⟩:=hR
          refine ⟨_,_,rfl,(by simp only [ls,lz];exact rfl),?_⟩
          refine wpList_nil ?_
          replace E7:=E7.trans e9
          have h2:Hid (MatAt w9 (N0 + 1 + 1) 105 (Z1P t out (Z28 t (Z1F t farM t.S.toNat) t.T.toNat) (j + 1))):=by show MatAt _ _ _ _;unfold Z1P;rw [if_neg (by rw [hh];decide)];exact m9
          clear e9 m9 m8 q7
          go_wp2
          go_roundw
          case rel=>exact ⟨j + 1,by omega,by go_num,h2.out,E7⟩
          case measure=>simp [intOf];omega
        ·have hj':j = t.rd.length:=by omega
         have hb4:MatAt wr (N0 + 1 + 1) 105 (Z1P t out (Z28 t (Z1F t farM t.S.toNat) t.T.toNat) t.rd.length):=by rw [← hj'];exact hbr
         clear hbr hj' hj
         have Q0l:=Lib.hid (Er.keep Q0.out nin.out)
         have c4:=(Z0 Q0l.out 10).trans rfl
         go_wp2_with fail
         obtain ⟨w4,rfl⟩:∃ w4:World,w4 = wr:=⟨_,rfl⟩
         clear c4 Q0l
         go_loopw [121] (fun jv wr=>∃ l:Nat,l ≤ t.lk.length ∧ jv = .int .i64 l ∧ MatAt wr (N0 + 1 + 1) 105 (Z3J t (Z1P t out (Z28 t (Z1F t farM t.S.toNat) t.T.toNat) t.rd.length) l) ∧ Ext [N0 + 1 + 1] W wr) (fun jv _=>t.lk.length - (intOf jv).toNat)
         case atStart=>exact ⟨0,Nat.zero_le _,rfl,hb4,Er⟩
         case round =>
          obtain ⟨l,hl,rfl,hbl,El⟩:=hrel
          have o9:=Hok.out.lkl
          by_cases hltl:(l:Int) < (t.lk.length:Int)
          ·go_upto_region 36 with (fail)
           obtain ⟨rb,roff,hra,hrr⟩:=Hlk.out wr El l (by omega)
           have g1:=Hok.out.lk (t.lk.getD l (0,0,0,0,0,0)) (Z0m _ (by omega))
           obtain ⟨g11,g12,g13,g14,g15,g16,g17,g18,-,g19,g20,g21⟩:=g1
           have g4:=Hok.out.S3
           have g5:=Hok.out.A3
           have hB2:=hbl.lt
           have hWs:=El.size
           refine wp_region_lit ?_
           refine Z3 rfl rfl (ZJ (sz:=6) rfl (hra t.lk.length lcap) rfl Try.underlying26 (by kernel_rfl) (by omega) (by omega)) (by simp only [ls,lz];exact rfl) ?_
           refine Z3 rfl rfl (ZP (cs:=Z0L (t.lk.getD l (0,0,0,0,0,0))) rfl rfl Try.underlying75 rfl (by kernel_rfl) hrr) (by simp only [ls,lz];exact rfl) ?_
           refine Zy rfl rfl (ZB rfl Try.zeroValue75) (by simp only [ls,lz];exact rfl) fun W6 hW6=>?_
           have q6:=(congrArg (fun x:World=>x.heap[wr.heap.size]?) hW6).trans (Z0V rfl)
           have m6:MatAt W6 (N0 + 1 + 1) 105 _:=hW6 ▸ hbl.alloc _
           have E6:Ext [N0 + 1 + 1] W W6:=hW6 ▸ El.alloc _
           refine ZY rfl rfl (Zg (cs:=(Z0L (t.lk.getD l (0,0,0,0,0,0))).toArray) rfl rfl rfl (by kernel_rfl) (by simp [Z0L,Value.oneCell']) q6 (by rfl)) fun W7 hW7=>?_
           refine wpList_nil ?_
           have q7:W7.heap[wr.heap.size]? = some (.cells (Z0L (t.lk.getD l (0,0,0,0,0,0))).toArray 75 (0,0)):=by rw [hW7];exact Z1e q6 rfl
           have m7:MatAt W7 (N0 + 1 + 1) 105 (Z3J t (Z1P t out (Z28 t (Z1F t farM t.S.toNat) t.T.toNat) t.rd.length) l):=⟨by rw [hW7,Z1b _ _ _ _ _ (by omega)];exact m6.blk⟩
           have E7:Ext [N0 + 1 + 1] W W7:=by rw [hW7];exact E6.setCells (fun h=>by omega) _ _
           clear hW7 E6 m6 q6 hW6 hrr
           generalize wr.heap.size = R0 at q7 hB2 hWs ⊢
           go_upto_region 37 with (fail)
           refine Z0g 12 follows (by kernel_rfl) fun W8 hW8 eW8=>?_
           replace m7:=m7.same hW8
           replace E7:=E7.nil eW8
           replace q7:=Zn hW8 q7
           clear hW8 eW8
           refine Zp rfl rfl (Z06 rfl rfl Try.underlying75 rfl (n:=2) (sz:=1) rfl (by kernel_rfl) (by decide)) (by simp only [ls,lz];exact rfl) ?_
           refine Zp rfl rfl (Zh rfl rfl Try.underlying3 rfl ((Z0 q7 2).trans rfl)) (by simp only [ls,lz];exact rfl) ?_
           refine Zp rfl rfl (Z06 rfl rfl Try.underlying75 rfl (n:=3) (sz:=1) rfl (by kernel_rfl) (by decide)) (by simp only [ls,lz];exact rfl) ?_
           refine Zp rfl rfl (Zh rfl rfl Try.underlying3 rfl ((Z0 q7 3).trans rfl)) (by simp only [ls,lz];exact rfl) ?_
           refine Z0Z rfl rfl (by kernel_rfl) (Z1W (t.lk.getD l (0,0,0,0,0,0)).2.2.1 (t.lk.getD l (0,0,0,0,0,0)).2.2.2.1 _ (by omega) (by omega) (by omega) (by omega)) (by simp only [ls,lz];exact rfl) ?_
           refine Zp rfl rfl (Z06 rfl rfl Try.underlying75 rfl (n:=0) (sz:=1) rfl (by kernel_rfl) (by decide)) (by simp only [ls,lz];exact rfl) ?_
           refine Zp rfl rfl (Zh rfl rfl Try.underlying3 rfl ((Z0 q7 0).trans rfl)) (by simp only [ls,lz];exact rfl) ?_
           refine Zp rfl rfl (Z06 rfl rfl Try.underlying75 rfl (n:=1) (sz:=1) rfl (by kernel_rfl) (by decide)) (by simp only [ls,lz];exact rfl) ?_
           refine Zp rfl rfl (Zh rfl rfl Try.underlying3 rfl ((Z0 q7 1).trans rfl)) (by simp only [ls,lz];exact rfl) ?_
           refine Z0Z rfl rfl (by kernel_rfl) (Z1W (t.lk.getD l (0,0,0,0,0,0)).1 (t.lk.getD l (0,0,0,0,0,0)).2.1 _ (by omega) (by omega) (by omega) (by omega)) (by simp only [ls,lz];exact rfl) ?_
           refine Zp rfl rfl (Z06 rfl rfl Try.underlying75 rfl (n:=4) (sz:=2) rfl (by kernel_rfl) (by decide)) (by simp only [ls,lz];exact rfl) ?_
           refine Zp rfl rfl (ZP (cs:=[.int .i64 (t.lk.getD l (0,0,0,0,0,0)).2.2.2.2.1,.int .i64 (t.lk.getD l (0,0,0,0,0,0)).2.2.2.2.2]) rfl rfl Try.underlying23 rfl (by kernel_rfl) (Z66 q7 (fun j v h=>by rcases j with _ | _ | j <;> simp_all [Z0L]))) (by simp only [ls,lz];exact rfl) ?_
           refine wpStill_nil ?_
           refine ZC rfl rfl (by kernel_rfl) (Z36 _ (N0 + 1 + 1) (1 + (t.lk.getD l (0,0,0,0,0,0)).2.2.1 * 3 + (t.lk.getD l (0,0,0,0,0,0)).2.2.2.1) (1 + (t.lk.getD l (0,0,0,0,0,0)).1 * 3 + (t.lk.getD l (0,0,0,0,0,0)).2.1) (t.lk.getD l (0,0,0,0,0,0)).2.2.2.2.1 (t.lk.getD l (0,0,0,0,0,0)).2.2.2.2.2 _ m7 (by omega) (by omega) (by omega) (by omega) (by omega) (by omega)) fun e w' hR=>?_;obtain ⟨rfl,m9,e9⟩:=hR;refine ⟨_,_,rfl,(by simp only [ls,lz];exact rfl),?_⟩
           refine wpList_nil ?_
           replace E7:=E7.trans e9
           clear e9 q7
           go_wp2
           go_roundw
           case rel=>exact ⟨l + 1,by omega,by go_num,m9,E7⟩
           case measure=>simp [intOf];omega
          ·have hl':l = t.lk.length:=by omega
           have hb5:MatAt wr (N0 + 1 + 1) 105 (Z0D t out):=by unfold Z0D;rw [← hl'];exact hbl
           clear hbl hl' hl
           have nin1:N0 + 1 ∉ [N0 + 1 + 1]:=by simp
           have Q1l:=El.keep Q1.out nin1
           clear nin1
           go_upto_region 39 with (fail)
           refine wp_region_lit ?_
           refine Z3 rfl rfl (ZP (cs:=Z0Y (Z0D t out)) rfl rfl Try.underlying105 rfl (Z2r _) hb5.range) (by simp only [ls,lz];exact rfl) ?_
           refine ZY rfl rfl (Zg (cs:=(Z0Y (Z0D t out)).toArray) rfl rfl rfl (by rw [List.size_toArray];exact Z2r _) (all_oneCell_toArray (Z05 _)) Q1l (by rw [Try.zeroCells105_size,List.size_toArray,Z1a])) fun W9 hW9=>?_
           refine wpList_nil ?_
           have q9:W9.heap[N0 + 1]? = some (.cells (ZD (Z0D t out)) 105 (0,0)):=by
            rw [hW9,Z1e Q1l (by rw [Try.zeroCells105_size,List.size_toArray,Z1a]),ZI]
           have E9:Ext [N0 + 1 + 1,N0 + 1] W W9:=by rw [hW9];exact (El.mono (by simp)).setCells (fun _=>by simp) _ _
           clear hW9
           have E10:Ext [] w W9:=E0.trans' E9 (by have:=HN0.out;simp;omega)
           go_wp2
           refine bodyPost_ret (Z2a rfl rfl Try.underlying105 rfl (by rw [Zj];kernel_rfl) q9) rfl ⟨rfl,E10⟩
end Go.Proofs.Ytholfdgebdlgjaa
namespace Go.Proofs.Ytholfdgebdlgjaa
theorem Z3h (m:Nat → Nat → Int) (i j:Nat) (v:Int):upd m i j v i j = v:=by simp [upd]
theorem Z2M (m:Nat → Nat → Int) (i j p q:Nat) (v:Int) (h:¬ (p = i ∧ q = j)):upd m i j v p q = m p q:=by simp [upd,h]
theorem Z8S (m:Nat → Nat → Int) (k i j p q:Nat):Z2f m k i j p q ≤ m p q:=by
 unfold Z2f
 by_cases h:p = i ∧ q = j
 ·obtain ⟨rfl,rfl⟩:=h;rw [Z3h];omega
 ·rw [Z2M _ _ _ _ _ _ h];omega
theorem Z2T (m:Nat → Nat → Int) (k i p q:Nat):∀ j,Z1w m k i j p q ≤ m p q
 | 0=>Int.le_refl _
 | j + 1=>Int.le_trans (Z8S _ _ _ _ _ _) (Z2T m k i p q j)
theorem Z8N {m m':Nat → Nat → Int} {k:Nat} (p q:Nat):∀ {i},iTo m k i = some m' → m' p q ≤ m p q:=by
 intro i
 induction i generalizing m' with
 | zero=>intro h;simp only [iTo,Option.some.injEq] at h;subst h;exact Int.le_refl _
 | succ i ih =>
  intro h
  cases hx:iTo m k i with
  | none=>simp [iTo,hx] at h
  | some x =>
   simp only [iTo,hx] at h
   split at h
   ·cases h
   ·cases h;exact Int.le_trans (Z2T _ _ _ _ _ _) (ih hx)
theorem Z53 {m m':Nat → Nat → Int} (p q:Nat):∀ {k},kTo m k = some m' → m' p q ≤ m p q:=by
 intro k
 induction k generalizing m' with
 | zero=>intro h;simp only [kTo,Option.some.injEq] at h;subst h;exact Int.le_refl _
 | succ k ih =>
  intro h
  cases hx:kTo m k with
  | none=>simp [kTo,hx] at h
  | some x=>simp only [kTo,hx] at h;exact Int.le_trans (Z8N p q h) (ih hx)
structure Low (L:Int) (k i j:Nat) (x:Nat → Nat → Int):Prop where
 all:∀ p q,p < 13 → q < 13 → -(6 * L) ≤ x p q
 kk:-(2 * L) ≤ x k k
 row:∀ q,q < 13 → -(3 * L) ≤ x k q
 row0:∀ q,q < 13 → (i < k ∨ (i = k ∧ j ≤ q)) → -L ≤ x k q
 col:∀ p,p < 13 → -(3 * L) ≤ x p k
 col0:∀ p,p < 13 → (i < p ∨ (p = i ∧ j ≤ k)) → -L ≤ x p k
theorem Low.start {L:Int} (hL:0 ≤ L) {k:Nat} (hk:k < 13) {x:Nat → Nat → Int} (h:∀ p q,p < 13 → q < 13 → -L ≤ x p q):Low L k 0 0 x:=
 ⟨fun p q hp hq=>by have:=h p q hp hq;omega,by have:=h k k hk hk;omega,fun q hq=>by have:=h k q hk hq;omega,fun q hq _=>h k q hk hq,fun p hp=>by have:=h p k hp hk;omega,fun p hp _=>h p k hp hk⟩
theorem Low.next {L:Int} {k i:Nat} {x:Nat → Nat → Int} (h:Low L k i 13 x) (hk:k < 13):Low L k (i + 1) 0 x:=
 ⟨h.all,h.kk,h.row,fun q hq hc=>h.row0 q hq (by omega),h.col,fun p hp hc=>h.col0 p hp (by omega)⟩
theorem Low.step {L:Int} (hL:0 ≤ L) {k i j:Nat} (hk:k < 13) (hi:i < 13) (hj:j < 13) {x:Nat → Nat → Int} (h:Low L k i j x):Low L k i (j + 1) (Z2f x k i j):=by
 have a1:=h.col i hi
 have a2:=h.row j hj
 have a3:=h.all i j hi hj
 have a4:=h.kk
 have key:∀ p q,¬ (p = i ∧ q = j) → Z2f x k i j p q = x p q:=fun p q hne=>Z2M _ _ _ _ _ _ hne
 have hit:Z2f x k i j i j = min (x i j) (x i k + x k j):=Z3h _ _ _ _
 refine ⟨fun p q hp hq=>?_,?_,fun q hq=>?_,fun q hq hc=>?_,fun p hp=>?_,fun p hp hc=>?_⟩
 ·by_cases e:p = i ∧ q = j
  ·obtain ⟨rfl,rfl⟩:=e;rw [hit];omega
  ·rw [key p q e];exact h.all p q hp hq
 ·by_cases e:k = i ∧ k = j
  ·obtain ⟨rfl,rfl⟩:=e
   have b:=h.row0 k hk (by omega)
   rw [hit];omega
  ·rw [key k k e];exact h.kk
 ·by_cases e:k = i ∧ q = j
  ·obtain ⟨rfl,rfl⟩:=e
   have b:=h.row0 q hq (by omega)
   rw [hit];omega
  ·rw [key k q e];exact h.row q hq
 ·rw [key k q (by omega)];exact h.row0 q hq (by omega)
 ·by_cases e:p = i ∧ k = j
  ·obtain ⟨rfl,rfl⟩:=e
   have b:=h.col0 p hp (by omega)
   rw [hit];omega
  ·rw [key p k e];exact h.col p hp
 ·rw [key p k (by omega)];exact h.col0 p hp (by omega)
theorem Low.rows {L:Int} (hL:0 ≤ L) {k i:Nat} (hk:k < 13) (hi:i < 13) {x:Nat → Nat → Int} (h:Low L k i 0 x):∀ j,j ≤ 13 → Low L k i j (Z1w x k i j)
 | 0,_=>h
 | j + 1,hj=>(Low.rows hL hk hi h j (by omega)).step hL hk hi (by omega)
theorem Low.all_rows {L:Int} (hL:0 ≤ L) {k:Nat} (hk:k < 13) {x:Nat → Nat → Int} (h:∀ p q,p < 13 → q < 13 → -L ≤ x p q):∀ i,i ≤ 13 → ∀ y,iTo x k i = some y → Low L k i 0 y
 | 0,_,y,e=>by simp only [iTo,Option.some.injEq] at e;subst e;exact Low.start hL hk h
 | i + 1,hi,y,e=>by
  cases hx:iTo x k i with
  | none=>simp [iTo,hx] at e
  | some z =>
   simp only [iTo,hx] at e
   split at e
   ·cases e
   ·cases e
    exact ((Low.all_rows hL hk h i (by omega) z hx).rows hL hk (by omega) 13 (by omega)).next hk
theorem Z5l {L:Int} (hL:0 ≤ L) {m:Nat → Nat → Int} (h:∀ p q,p < 13 → q < 13 → -L ≤ m p q):∀ k,k ≤ 13 → ∀ y,kTo m k = some y → ∀ p q,p < 13 → q < 13 → -(6 ^ k * L) ≤ y p q
 | 0,_,y,e=>by simp only [kTo,Option.some.injEq] at e;subst e;simpa using h
 | k + 1,hk,y,e=>by
  cases hx:kTo m k with
  | none=>simp [kTo,hx] at e
  | some z =>
   simp only [kTo,hx] at e
   have ih:=Z5l hL h k (by omega) z hx
   have hL':(0:Int) ≤ 6 ^ k * L:=Int.mul_nonneg (Int.pow_nonneg (by omega)) hL
   have:=(Low.all_rows hL' (by omega) ih 13 (Nat.le_refl _) y e).all
   intro p q hp hq
   have:=this p q hp hq
   rw [Int.pow_succ]
   have e2:(6 ^ k * 6 * L:Int) = 6 * (6 ^ k * L):=by rw [Int.mul_assoc,Int.mul_comm 6 L,← Int.mul_assoc,Int.mul_comm]
   omega
theorem Z5X:∀ k,k < 13 → (6:Int) ^ k ≤ 2176782336:=by decide
theorem Z5B {m:Nat → Nat → Int} (h:∀ p q,p < 13 → q < 13 → -1048576 ≤ m p q ∧ m p q ≤ 1048576):Z4W m:=by
 intro k i j hk hi hj m1 h1 m2 h2
 have l1:=Z5l (L:=1048576) (by omega) (fun p q hp hq=>(h p q hp hq).1) k (by omega) m1 h1
 have hL':(0:Int) ≤ 6 ^ k * 1048576:=Int.mul_nonneg (Int.pow_nonneg (by omega)) (by omega)
 have l2:=((Low.all_rows hL' hk l1 i (by omega) m2 h2).rows hL' hk hi j (by omega))
 have c1:=l2.col i hi
 have c2:=l2.row j hj
 have hp:=Z5X k hk
 have u1:Z1w m2 k i j i k ≤ m i k:=Int.le_trans (Z2T _ _ _ _ _ _) (Int.le_trans (Z8N _ _ h2) (Z53 _ _ h1))
 have u2:Z1w m2 k i j k j ≤ m k j:=Int.le_trans (Z2T _ _ _ _ _ _) (Int.le_trans (Z8N _ _ h2) (Z53 _ _ h1))
 have v1:=(h i k hi hk).2
 have v2:=(h k j hk hj).2
 constructor <;> omega
def Z1u (x:Nat → Nat → Int) (k i j:Nat):Nat → Nat → Int:=fun p q=>if p = i ∧ q < j then min (x p q) (x p k + x k q) else x p q
def Z20 (x:Nat → Nat → Int) (k i:Nat):Nat → Nat → Int:=fun p q=>if p < i ∧ q < 13 then min (x p q) (x p k + x k q) else x p q
theorem Z5v {x:Nat → Nat → Int} {k i:Nat} (hk:0 ≤ x k k):∀ j,Z1w x k i j = Z1u x k i j
 | 0=>by funext p q;simp [Z1w,Z1u]
 | j + 1=>by
  have ih:=Z5v (i:=i) hk j
  funext p q
  show Z2f (Z1w x k i j) k i j p q = _
  rw [ih]
  unfold Z2f
  by_cases e:p = i ∧ q = j
  ·obtain ⟨rfl,rfl⟩:=e
   rw [Z3h]
   have e1:Z1u x k p q p q = x p q:=by simp [Z1u]
   have e2:Z1u x k p q p k = x p k:=by
    unfold Z1u
    split
    ·omega
    ·rfl
   have e3:Z1u x k p q k q = x k q:=by simp [Z1u]
   rw [e1,e2,e3]
   unfold Z1u
   rw [if_pos ⟨rfl,by omega⟩]
  ·rw [Z2M _ _ _ _ _ _ e]
   unfold Z1u
   by_cases h1:p = i ∧ q < j
   ·rw [if_pos h1,if_pos ⟨h1.1,by omega⟩]
   ·rw [if_neg h1,if_neg (by omega)]
theorem Zaj {x:Nat → Nat → Int} {k:Nat} (hk13:k < 13) (hk:0 ≤ x k k):∀ i,i ≤ 13 → ∀ y,iTo x k i = some y → y = Z20 x k i ∧ ∀ p,p < i → 0 ≤ y p p
 | 0,_,y,e=>by
  simp only [iTo,Option.some.injEq] at e
  subst e
  exact ⟨by funext p q;simp [Z20],fun p hp=>absurd hp (Nat.not_lt_zero _)⟩
 | i + 1,hi,y,e=>by
  cases hx:iTo x k i with
  | none=>simp [iTo,hx] at e
  | some z =>
   obtain ⟨hz,hd⟩:=Zaj hk13 hk i (by omega) z hx
   simp only [iTo,hx] at e
   split at e
   ·cases e
   ·rename_i hneg
    cases e
    have hzk:z k k = x k k:=by
     rw [hz];unfold Z20
     split
     ·omega
     ·rfl
    have hrow:=Z5v (x:=z) (k:=k) (i:=i) (by rw [hzk];exact hk) 13
    have hkq:∀ q,q < 13 → z k q = x k q:=fun q hq=>by
     rw [hz];unfold Z20
     split
     ·omega
     ·rfl
    have hiq:∀ q,z i q = x i q:=fun q=>by
     rw [hz];unfold Z20
     rw [if_neg (by omega)]
    refine ⟨?_,fun p hp=>?_⟩
    ·rw [hrow]
     funext p q
     unfold Z1u
     by_cases h1:p = i ∧ q < 13
     ·obtain ⟨rfl,hq⟩:=h1
      rw [if_pos ⟨rfl,hq⟩,hiq,hiq,hkq q hq]
      unfold Z20
      rw [if_pos ⟨by omega,hq⟩]
     ·rw [if_neg h1,hz]
      unfold Z20
      by_cases h2:p < i ∧ q < 13
      ·rw [if_pos h2,if_pos ⟨by omega,h2.2⟩]
      ·rw [if_neg h2,if_neg (by omega)]
    ·by_cases e:p = i
     ·subst e;omega
     ·have:=hd p (by omega)
      rw [hrow];unfold Z1u
      rw [if_neg (by omega)]
      exact this
theorem Z5L {m y:Nat → Nat → Int} (hd:∀ p,p < 13 → 0 ≤ m p p):∀ k,k ≤ 13 → kTo m k = some y → (∀ p,p < 13 → 0 ≤ y p p) ∧ (∀ p,p < k → ∀ i j,i < 13 → j < 13 → y i j ≤ y i p + y p j)
 | 0,_,e=>by
  simp only [kTo,Option.some.injEq] at e
  subst e
  exact ⟨hd,fun p hp=>absurd hp (Nat.not_lt_zero _)⟩
 | k + 1,hk,e=>by
  cases hx:kTo m k with
  | none=>simp [kTo,hx] at e
  | some z =>
   simp only [kTo,hx] at e
   obtain ⟨hz,hc⟩:=Z5L hd k (by omega) hx
   obtain ⟨hy,hyd⟩:=Zaj (by omega) (hz k (by omega)) 13 (Nat.le_refl _) y e
   refine ⟨hyd,fun p hp i j hi hj=>?_⟩
   have val:∀ a b,a < 13 → b < 13 → y a b = min (z a b) (z a k + z k b):=fun a b ha hb=>by
    rw [hy];unfold Z20;rw [if_pos ⟨ha,hb⟩]
   have hkk:=hz k (by omega)
   by_cases e:p = k
   ·subst e
    rw [val i j hi hj,val i p hi (by omega),val p j (by omega) hj]
    omega
   ·have hp':p < k:=by omega
    have t1:=hc p hp' i j hi hj
    have t2:=hc p hp' i k hi (by omega)
    have t3:=hc p hp' k j (by omega) hj
    have t4:=hc p hp' k k (by omega) (by omega)
    rw [val i j hi hj,val i p hi (by omega),val p j (by omega) hj]
    omega
def Z3w (m:Nat → Nat → Int):Prop:=(∀ p,p < 13 → 0 ≤ m p p) ∧ ∀ p i j,p < 13 → i < 13 → j < 13 → m i j ≤ m i p + m p j
theorem Z2h {m y:Nat → Nat → Int} (hd:∀ p,p < 13 → 0 ≤ m p p) (h:kTo m 13 = some y):Z3w y:=
 ⟨(Z5L hd 13 (Nat.le_refl _) h).1,fun p i j hp hi hj=>(Z5L hd 13 (Nat.le_refl _) h).2 p hp i j hi hj⟩
theorem Z5P {m:Nat → Nat → Int} (hc:Z3w m) {k i j:Nat} (hk:k < 13) (hi:i < 13) (hj:j < 13):Z2f m k i j = m:=by
 funext p q
 unfold Z2f
 by_cases e:p = i ∧ q = j
 ·obtain ⟨rfl,rfl⟩:=e
  rw [Z3h]
  have:=hc.2 k p q hk hi hj
  omega
 ·exact Z2M _ _ _ _ _ _ e
theorem Z38 {m:Nat → Nat → Int} (hc:Z3w m) {k i:Nat} (hk:k < 13) (hi:i < 13):∀ j,j ≤ 13 → Z1w m k i j = m
 | 0,_=>rfl
 | j + 1,hj=>by
  show Z2f (Z1w m k i j) k i j = m
  rw [Z38 hc hk hi j (by omega)]
  exact Z5P hc hk hi (by omega)
theorem Z3Y {m:Nat → Nat → Int} (hc:Z3w m) {k:Nat} (hk:k < 13):∀ i,i ≤ 13 → iTo m k i = some m
 | 0,_=>rfl
 | i + 1,hi=>by
  have h:=Z38 hc hk (show i < 13 by omega) 13 (Nat.le_refl _)
  have:=hc.1 i (by omega)
  simp only [iTo,Z3Y hc hk i (by omega),h]
  rw [if_neg (by omega)]
theorem Z44 {m:Nat → Nat → Int} (hc:Z3w m):∀ k,k ≤ 13 → kTo m k = some m
 | 0,_=>rfl
 | k + 1,hk=>by
  simp only [kTo,Z44 hc k (by omega),Z3Y hc (show k < 13 by omega) 13 (Nat.le_refl _)]
theorem Zac (m:Nat → Nat → Int):eqM m m = true:=Z91.2 fun _ _ _ _=>rfl
theorem Z74 {m:Nat → Nat → Int} (hc:Z3w m) (h:∀ p q,p < 13 → q < 13 → -4000000000000000000 ≤ m p q ∧ m p q ≤ 4000000000000000000):Z4W m:=by
 intro k i j hk hi hj m1 h1 m2 h2
 rw [Z44 hc k (by omega)] at h1
 cases h1
 rw [Z3Y hc hk i (by omega)] at h2
 cases h2
 rw [Z38 hc hk hi j (by omega)]
 have a:=h i k hi hk
 have b:=h k j hk hj
 constructor <;> omega
theorem Z6q {m:Nat → Nat → Int} (hd:∀ p,p < 13 → 0 ≤ m p p) (h:∀ p q,p < 13 → q < 13 → -1048576 ≤ m p q ∧ m p q ≤ 1048576) :
  ∀ m',kTo m 13 = some m' → Z4W m' ∧ ∃ m'',kTo m' 13 = some m'' ∧ eqM m'' m' = true:=by
 intro m' hm
 have hc:=Z2h hd hm
 refine ⟨Z74 hc fun p q hp hq=>?_,m',Z44 hc 13 (Nat.le_refl _),Zac _⟩
 have l:=Z5l (L:=1048576) (by omega) (fun p q hp hq=>(h p q hp hq).1) 13 (Nat.le_refl _) m' hm p q hp hq
 have u:=Int.le_trans (Z53 p q hm) (h p q hp hq).2
 have e:(6:Int) ^ 13 * 1048576 = 13695206129664 * 1000 + 210516160 * 0 + (6 ^ 13 * 1048576 - 13695206129664 * 1000):=by omega
 have hpw:(6:Int) ^ 13 = 13060694016:=by decide
 rw [hpw] at l
 constructor <;> omega
def sol (m:Nat → Nat → Int) (x:Nat → Int):Prop:=∀ i j,i < 13 → j < 13 → x j - x i ≤ m i j
theorem Z9Q {m:Nat → Nat → Int} {x:Nat → Int} (h:sol m x) {k i j:Nat} (hk:k < 13) (hi:i < 13) (hj:j < 13):sol (Z2f m k i j) x:=by
 intro p q hp hq
 unfold Z2f
 by_cases e:p = i ∧ q = j
 ·obtain ⟨rfl,rfl⟩:=e
  rw [Z3h]
  have a:=h p q hp hq
  have b:=h p k hp hk
  have c:=h k q hk hq
  omega
 ·rw [Z2M _ _ _ _ _ _ e];exact h p q hp hq
theorem Z9t {m:Nat → Nat → Int} {x:Nat → Int} (h:sol m x) {k i:Nat} (hk:k < 13) (hi:i < 13):∀ j,j ≤ 13 → sol (Z1w m k i j) x
 | 0,_=>h
 | j + 1,hj=>Z9Q (Z9t h hk hi j (by omega)) hk hi (by omega)
theorem Z9a {m:Nat → Nat → Int} {x:Nat → Int} (h:sol m x) {k:Nat} (hk:k < 13):∀ i,i ≤ 13 → ∃ y,iTo m k i = some y ∧ sol y x
 | 0,_=>⟨m,rfl,h⟩
 | i + 1,hi=>by
  obtain ⟨y,hy,hs⟩:=Z9a h hk i (by omega)
  have hr:=Z9t hs hk (show i < 13 by omega) 13 (Nat.le_refl _)
  have:=hr i i (by omega) (by omega)
  refine ⟨_,?_,hr⟩
  simp only [iTo,hy]
  rw [if_neg (by omega)]
theorem Z6y {m:Nat → Nat → Int} {x:Nat → Int} (h:sol m x):∀ k,k ≤ 13 → ∃ y,kTo m k = some y ∧ sol y x
 | 0,_=>⟨m,rfl,h⟩
 | k + 1,hk=>by
  obtain ⟨y,hy,hs⟩:=Z6y h k (by omega)
  obtain ⟨z,hz,hs'⟩:=Z9a hs (show k < 13 by omega) 13 (Nat.le_refl _)
  exact ⟨z,by simp only [kTo,hy,hz],hs'⟩
theorem Z7v {m y:Nat → Nat → Int} {x:Nat → Int} (hm:kTo m 13 = some y) (h:sol y x):sol m x:=fun i j hi hj=>Int.le_trans (h i j hi hj) (Z53 i j hm)
theorem Z6a {m:Nat → Nat → Int} (hc:Z3w m) {a:Nat} (ha:a < 13):sol m (fun j=>m a j):=fun i j hi hj=>by
 have:=hc.2 i a j hi ha hj
 show m a j - m a i ≤ m i j
 omega
end Go.Proofs.Ytholfdgebdlgjaa
namespace Go.Proofs.Ytholfdgebdlgjaa
open Go.RowKit
def Z2z (m:Nat → Nat → Int):Prop:=(∀ p q,-1048576 ≤ m p q ∧ m p q ≤ 1048576) ∧ ∀ p,m p p = 0
theorem Z2g {m:Nat → Nat → Int} (h:Z2z m) {l k:Nat} (hlk:l ≠ k) {lo hi:Int} (h1:-1000 ≤ hi) (h2:lo ≤ 1000):Z2z (Z0A m l k lo hi):=by
 have hb:=h.1
 refine ⟨fun p q=>?_,fun p=>?_⟩
 ·have a1:=hb p q
  have a2:=hb l k
  have a3:=hb k l
  unfold Z0A upd
  split <;> (try split) <;> omega
 ·have a1:=h.2 p
  unfold Z0A upd
  rw [if_neg (by omega),if_neg (by omega)]
  exact a1
theorem Z8p:Z2z farM:=⟨fun p q=>by unfold farM;split <;> omega,fun p=>by unfold farM;simp⟩
theorem Z59 {t:Tp} (ok:t.Ok) {m:Nat → Nat → Int} (h:Z2z m) {s:Nat} (hs:s < t.S.toNat):∀ a,Z2z (Z29 t m s a)
 | 0=>h
 | a + 1=>by
  have ih:=Z59 ok h hs a
  have o1:=ok.bl1
  have o2:=ok.bm1
  have o3:=ok.b
  have g:=ok.gr (t.gr.getD s (0,0)) (Z0m _ (by have:=ok.grl;omega))
  have i1:=Z2g ih (l:=0) (k:=ZO s a) (by unfold ZO;omega) (lo:=t.bl) (hi:=t.bm) (by omega) (by omega)
  unfold Z29
  split
  ·exact Z2g i1 (by unfold ZO;omega) (by omega) (by omega)
  ·exact i1
theorem Z4Z {t:Tp} (ok:t.Ok) {m:Nat → Nat → Int} (h:Z2z m):∀ s,s ≤ t.S.toNat → Z2z (Z1F t m s)
 | 0,_=>h
 | s + 1,hs=>Z59 ok (Z4Z ok h s (by omega)) (by omega) _
theorem Z5c {t:Tp} (ok:t.Ok) {m:Nat → Nat → Int} (h:Z2z m):∀ i,Z2z (Z28 t m i)
 | 0=>h
 | i + 1=>by
  have o1:=ok.pl1
  have o2:=ok.pm1
  have o3:=ok.p
  exact Z2g (Z5c ok h i) (by unfold Z0q;omega) (by omega) (by omega)
theorem Z55 {t:Tp} (ok:t.Ok) (out:Int) {m:Nat → Nat → Int} (h:Z2z m):∀ i,i ≤ t.rd.length → Z2z (Z1P t out m i)
 | 0,_=>h
 | i + 1,hi=>by
  have ih:=Z55 ok out h i (by omega)
  have g:=ok.rd (t.rd.getD i (0,0,0,0)) (Z0m _ (by omega))
  have o1:=ok.sl0
  have o2:=ok.sl5
  have o3:=ok.S3
  have o4:=ok.A3
  unfold Z1P
  split
  ·exact ih
  ·exact Z2g ih (by unfold Z0q ZO;omega) (by omega) (by omega)
theorem Z57 {t:Tp} (ok:t.Ok) {m:Nat → Nat → Int} (h:Z2z m):∀ i,i ≤ t.lk.length → Z2z (Z3J t m i)
 | 0,_=>h
 | i + 1,hi=>by
  have ih:=Z57 ok h i (by omega)
  have g:=ok.lk (t.lk.getD i (0,0,0,0,0,0)) (Z0m _ (by omega))
  obtain ⟨g1,g2,g3,g4,g5,g6,g7,g8,g9,g10,g11,g12⟩:=g
  have o3:=ok.S3
  have o4:=ok.A3
  exact Z2g ih (by unfold ZO;omega) (by omega) (by omega)
theorem Z1D {t:Tp} (ok:t.Ok) (out:Int):Z2z (Z0D t out):=
 Z57 ok (Z55 ok out (Z5c ok (Z4Z ok Z8p _ (Nat.le_refl _)) _) _ (Nat.le_refl _)) _ (Nat.le_refl _)
theorem Z7R {t:Tp} (ok:t.Ok) (out:Int):Z4W (Z0D t out):=Z5B fun p q _ _=>(Z1D ok out).1 p q
theorem Z6v {t:Tp} (ok:t.Ok) (out:Int):∀ m',kTo (Z0D t out) 13 = some m' → Z4W m' ∧ ∃ m'',kTo m' 13 = some m'' ∧ eqM m'' m' = true:=
 Z6q (fun p _=>by rw [(Z1D ok out).2 p];exact Int.le_refl _) fun p q _ _=>(Z1D ok out).1 p q
theorem Z8V (xT:TypeId) (w:World):(Instr.typeAssert (.iface 163 (.agg #[])) xT 163 true).run Try.prog w = .ok (.tuple #[.agg #[],.bool true]) w:=by
 simp [Instr.typeAssert,run_underlying Try.underlying163,go_sem,Result.andThen]
theorem Z9W (xT:TypeId) (w:World):(Instr.typeAssert Value.nilIface xT 163 true).run Try.prog w = .ok (.tuple #[.agg #[],.bool false]) w:=by
 simp [Instr.typeAssert,run_underlying Try.underlying163,Try.zeroValue163,go_sem,Result.andThen]
set_option maxRecDepth 20000 in
set_option maxHeartbeats 400000 in
theorem Z70 (b:Nat) (x:Bool) (w:World) (hb:w.heap[b]? = some (.cells #[.bool x] 4 (0,0))) :
  CallsD Try.prog 131 #[.pointer (some ⟨b,0,none⟩)] (.panicking [{ v:=.iface 163 (.agg #[]),recovered:=false }]) w fun e u' w' =>
   e = .returned (.tuple #[]) ∧ u' = .panicking [{ v:=.iface 163 (.agg #[]),recovered:=true }] ∧ w' = (w.alloc (.cells #[] 163)).setCell ⟨b,0,none⟩ (.bool false):=by
 have hc:(w.alloc (.cells #[] 163)).cell? ⟨b,0,none⟩ = some (.bool x):=(Z0 (Z1k hb) 0).trans rfl
 have hz:(w.alloc (.cells #[] 163)).frozen? ⟨b,0,none⟩ = false:=Zl (Z1k hb) 0
 refine callsD_of_wpS Try.func131 rfl fun c₀ cs hu=>?_
 apply wpS_seq
 apply wpS_region
 simp [wpOpsS,go_sem,recoverD,hu,Try.ntmps131,Exit.thenS,Z8V,Result.andThen]
 apply wpS_seq
 apply wpS_region
 simp [wpOpsS,go_sem,Exit.thenS,Array.replicate]
 refine wpS_cond (t:=true) (by simp [Act.eval]) ?_
 simp only [if_true]
 apply wpS_region
 simp [wpOpsS,go_sem,hc,hz,bodyPostS,results,Try.results131]
set_option maxRecDepth 20000 in
set_option maxHeartbeats 400000 in
theorem Z7U (p:Addr) (w:World) :
  CallsD Try.prog 131 #[.pointer (some p)] .returning w fun e u' w'=>e = .returned (.tuple #[]) ∧ u' = .returning ∧ w' = w.alloc (.cells #[] 163):=by
 refine callsD_of_wpS Try.func131 rfl fun c₀ cs hu=>?_
 apply wpS_seq
 apply wpS_region
 simp [wpOpsS,go_sem,recoverD,hu,Try.ntmps131,Exit.thenS,Z9W,Result.andThen]
 apply wpS_seq
 apply wpS_region
 simp [wpOpsS,go_sem,Exit.thenS,Array.replicate]
 refine wpS_cond (t:=false) (by simp [Act.eval]) ?_
 simp only [Bool.false_eq_true,if_false]
 refine wpS_of_wp (wp_skip ?_)
 cases c₀
 simp_all [bodyPostS,results,Try.results131]
theorem Z4c {P:Program} {t:TypeId} {b off:Nat} {v:Value} {d:TypeDesc} {w:World} (hd:P.underlying t = some d) (ha:d.isRow = false) (hc:w.cell? ⟨b,off,none⟩ = some v):(loadVar t ⟨b,off,none⟩).run P w = .ok v w:=by
 cases d <;> first | (simp [TypeDesc.isRow] at ha;done) | simp [loadVar,isAgg,underlying,hd,load,hc,Sem.run,go_sem]
theorem Z6d {P:Program} {fn:Func} {t t2:Tmp} {ty ty2:TypeId} {tmps:Array Value} {w:World} {b b2:Nat} {cs:Array Value} {v2:Value} {T:TypeId} {d:TypeDesc} {fz:Nat × Nat} (hr:fn.results = #[.cell t ty,.cell t2 ty2]) (ht:tmps.getD t undef = .pointer (some ⟨b,0,none⟩)) (hd:P.underlying ty = some d) (ha:d.isRow = true) (hi:(P.info? ty).map (·.size) = some cs.size) (H:w.heap[b]? = some (.cells cs T fz)) (ht2:tmps.getD t2 undef = .pointer (some ⟨b2,0,none⟩)) (hl2:(loadVar ty2 ⟨b2,0,none⟩).run P w = .ok v2 w) :
  (results fn tmps).run P w = .ok (.tuple #[.agg cs,v2]) w:=by
 have hc:w.rangeAt b 0 cs.toList:=fun j v hv=>by
  rw [Nat.zero_add,Z0 H];simpa using hv
 have hl:=run_loadVar_mid (P:=P) w b 0 ty cs.toList d hc hd ha (by simpa using hi)
 have ht':tmps[t]?.getD undef = .pointer (some ⟨b,0,none⟩):=by simpa using ht
 have ht2':tmps[t2]?.getD undef = .pointer (some ⟨b2,0,none⟩):=by simpa using ht2
 simp [results,hr,ht',ht2',asAddr,hl,hl2,Sem.run_bind,Result.andThen]
theorem Z9k {P:Program} {ops:Array Oper} {Q:Exit → Act → World → Prop} {o:Oper} {rest:List Oper} {w:World} {l:List Value} {ds:List Deferred} {d:Tmp} {f:FuncId} {args:Array Value} {R:Ending → World → Prop} (hd:o.dst = some d) (hw:Region.wanted o (yielded ops l.toArray) = true) (hr:(execOp (Act.eval ⟨l.toArray,ds⟩) o).run P w = .ok (.enter f args) w) (hc:Calls P f args w R) (h:∀ e w',R e w' → (∃ v l',e = .returned v ∧ l.set d v = l' ∧ wpList P ops Q rest ⟨l'.toArray,ds⟩ w') ∨ ∃ ps,e = .panicked ps ∧ Q (.panic ps) ⟨l.toArray,ds⟩ w'):wpList P ops Q (o :: rest) ⟨l.toArray,ds⟩ w:=by
 unfold wpList
 simp only [hw,if_true,Oper.wp,hr,Oper.upon]
 refine .inl (hc.mono fun e w' hR=>?_)
 rcases h e w' hR with ⟨v,l',rfl,hl,h1⟩ | ⟨ps,rfl,h1⟩
 ·show wpList _ _ _ _ _ _
  rw [Z1T _ hd,hl]
  exact h1
 ·exact h1
set_option maxRecDepth 20000 in
set_option maxHeartbeats 1000000 in
theorem Z8h (t:Tp) (ok:t.Ok) (gv rv lv:Value) (out:Int) (ho1:0 ≤ out) (ho2:out < 65536) (w:World) (ht:IsTp w gv rv lv t) (hs:Z4W (Z0D t out)) (hs2:∀ m',kTo (Z0D t out) 13 = some m' → Z4W m' ∧ ∃ m'',kTo m' 13 = some m'' ∧ eqM m'' m' = true) :
  Calls Try.prog 80 #[tpV t gv rv lv,.int .u16 out] w fun e w'=>Ext [] w w' ∧
   ((kTo (Z0D t out) 13 = none ∧ e = .returned (.tuple #[.agg (ZD fun _ _=>0),.bool false])) ∨ ∃ m',kTo (Z0D t out) 13 = some m' ∧ e = .returned (.tuple #[.agg (ZD m'),.bool true])):=by
 have hmf:∀ (fn:Fn) (first cap:Array Value) (w:World),(Instr.makeFunc fn first cap).run Try.prog w = .ok (.func fn first cap) w:=fun _ _ _ _=>rfl
 unfold tpV
 go_enter_defers Try.func80,Try.ntmps80
 go_upto_region 2 with (fail)
 have q0:(((w.alloc (.cells #[.int .i64 t.S,.int .i64 t.A,.int .i64 t.T,.int .i64 t.bl,.int .i64 t.bm,.int .i64 t.pl,.int .i64 t.pm,.int .i64 t.sl,gv,rv,lv] 100)).alloc (.cells Try.zeroCells105 105)).alloc (.cells #[.bool false] 4)).heap[w.heap.size]? = _:=Z1k (Z1k (Z0V rfl))
 have q1:(((w.alloc (.cells #[.int .i64 t.S,.int .i64 t.A,.int .i64 t.T,.int .i64 t.bl,.int .i64 t.bm,.int .i64 t.pl,.int .i64 t.pm,.int .i64 t.sl,gv,rv,lv] 100)).alloc (.cells Try.zeroCells105 105)).alloc (.cells #[.bool false] 4)).heap[w.heap.size + 1]? = _:=Z1k (Z0V (Z0N _ _).symm)
 have q2:(((w.alloc (.cells #[.int .i64 t.S,.int .i64 t.A,.int .i64 t.T,.int .i64 t.bl,.int .i64 t.bm,.int .i64 t.pl,.int .i64 t.pm,.int .i64 t.sl,gv,rv,lv] 100)).alloc (.cells Try.zeroCells105 105)).alloc (.cells #[.bool false] 4)).heap[w.heap.size + 1 + 1]? = _:=Z0V (by rw [Z0N,Z0N])
 have E0:Ext [] w (((w.alloc (.cells #[.int .i64 t.S,.int .i64 t.A,.int .i64 t.T,.int .i64 t.bl,.int .i64 t.bm,.int .i64 t.pl,.int .i64 t.pm,.int .i64 t.sl,gv,rv,lv] 100)).alloc (.cells Try.zeroCells105 105)).alloc (.cells #[.bool false] 4)):=(((Ext.refl _ _).alloc _).alloc _).alloc _
 generalize (((w.alloc (.cells #[.int .i64 t.S,.int .i64 t.A,.int .i64 t.T,.int .i64 t.bl,.int .i64 t.bm,.int .i64 t.pl,.int .i64 t.pm,.int .i64 t.sl,gv,rv,lv] 100)).alloc (.cells Try.zeroCells105 105)).alloc (.cells #[.bool false] 4)) = W at q0 q1 q2 E0 ⊢
 generalize hN0:w.heap.size = N0 at q0 q1 q2 ⊢
 refine wp_region_lit ?_
 refine Z3 rfl rfl (ZP (cs:=[.int .i64 t.S,.int .i64 t.A,.int .i64 t.T,.int .i64 t.bl,.int .i64 t.bm,.int .i64 t.pl,.int .i64 t.pm,.int .i64 t.sl,gv,rv,lv]) rfl rfl Try.underlying100 rfl (by kernel_rfl) (Z3t q0)) (by simp only [ls,lz];exact rfl) ?_
 refine Z3 rfl rfl (Zi (v:=.int .u16 _) rfl rfl) (by simp only [ls,lz];exact rfl) ?_
 refine ZC rfl rfl (by kernel_rfl) (Z94 t ok gv rv lv out ho1 ho2 _ (ht.ext E0 (by simp))) fun e w' hR=>?_;obtain ⟨rfl,e1⟩:=hR;refine ⟨_,_,rfl,(by simp only [ls,lz];exact rfl),?_⟩
 refine Z9k rfl rfl (by kernel_rfl) (Z7C (Z0D t out) _ hs hs2) fun e w2 hR=>?_
 obtain ⟨e2,⟨hn,rfl⟩ | ⟨m',hm,rfl⟩⟩:=hR
 ·(refine .inr ⟨_,rfl,?_⟩;refine leaves_cons (f:=131) (args:=#[.pointer (some ⟨N0 + 1 + 1,0,none⟩)]) (by simp) (by simp [go_sem]) ?_;refine (Z70 (N0 + 1 + 1) false _ (e2.keep0 (e1.keep0 q2))).mono ?_;rintro e u' w3 ⟨rfl,rfl,rfl⟩;have r1:=e2.keep0 (e1.keep0 q1);have r2:=e2.keep0 (e1.keep0 q2);have E4:Ext [N0 + 1 + 1] w ((w2.alloc (.cells #[] 163)).setCell ⟨N0 + 1 + 1,0,none⟩ (.bool false)):=Ext.setCell (Ext.alloc (((E0.nil e1).nil e2).mono (by simp)) _) (by simp) _;have E5:Ext [] w ((w2.alloc (.cells #[] 163)).setCell ⟨N0 + 1 + 1,0,none⟩ (.bool false)):=(Ext.refl _ _).trans' E4 (by simp;omega);refine ⟨_,Z6d rfl rfl Try.underlying105 rfl (by rw [Zj];kernel_rfl) (((Below.heap_setCell _ _ _ _ (by simp)).trans (Z1k r1)).trans (by rw [Z8Q])) rfl (Z4c (v:=.bool false) Try.underlying4 rfl ?_),E5,.inl ⟨hn,rfl⟩⟩;exact World.cell?_setCell_same _ _ _ (u:=.bool false) ((Z0 (Z1k r2) 0).trans rfl))
 refine .inl ⟨_,_,rfl,(by simp only [ls,lz];exact rfl),?_⟩
 have q1':=e2.keep0 (e1.keep0 q1)
 have q2':=e2.keep0 (e1.keep0 q2)
 refine ZY rfl rfl (Zg (cs:=ZD m') rfl rfl rfl (by rw [Zj];kernel_rfl) (by rw [← ZI];exact all_oneCell_toArray (Z05 _)) q1' (by rw [Try.zeroCells105_size,Zj])) fun W4 hW4=>?_
 have q24:W4.heap[N0 + 1 + 1]? = some (.cells #[.bool false] 4 (0,0)):=by rw [hW4,Z1b _ _ _ _ _ (by omega)];exact q2'
 refine ZY rfl rfl (ZR (v:=.bool _) rfl rfl rfl rfl (by kernel_rfl) ((Z0 q24 0).trans rfl) (Zl q24 0)) fun W5 hW5=>?_
 refine wpList_nil ?_
 have q14:W4.heap[N0 + 1]? = some (.cells (ZD m') 105 (0,0)):=by rw [hW4,← ZI,Z1e q1' (by rw [Try.zeroCells105_size,ZI,Zj])]
 have E4:Ext [N0 + 1] W W4:=by rw [hW4];exact ((e1.nil e2).mono (by simp)).setCells (fun _=>by simp) _ _
 have E6:Ext [N0 + 1,N0 + 1 + 1] W W5:=by rw [hW5];exact (E4.mono (by simp)).setCell (by simp) _
 have q15:W5.heap[N0 + 1]? = some (.cells (ZD m') 105 (0,0)):=by rw [hW5];exact (Below.heap_setCell _ _ _ _ (by simp)).trans q14
 have q25b:N0 + 1 + 1 < W5.heap.size:=by rw [hW5,Z2x];exact Z7 q24
 have q25:W5.cell? ⟨N0 + 1 + 1,0,none⟩ = some (.bool true):=by rw [hW5];exact World.cell?_setCell_same _ _ _ (u:=.bool false) ((Z0 q24 0).trans rfl)
 clear hW5 hW4
 have E7:Ext [] w W5:=E0.trans' E6 (by simp;omega)
 go_wp2
 refine leaves_cons (f:=131) (args:=#[.pointer (some ⟨N0 + 1 + 1,0,none⟩)]) (by simp) (by simp [go_sem]) ?_
 refine (Z7U _ _).mono ?_
 rintro e u' w3 ⟨rfl,rfl,rfl⟩
 refine ⟨_,Z6d rfl rfl Try.underlying105 rfl (by rw [Zj];kernel_rfl) (Z1k q15) rfl (Z4c (v:=.bool true) Try.underlying4 rfl ?_),E7.alloc _,.inr ⟨m',hm,rfl⟩⟩
 exact ((Ext.refl [] W5).alloc _).cell (a:=⟨N0 + 1 + 1,0,none⟩) q25b (by simp) |>.trans q25
theorem Zaf (t:Tp) (ok:t.Ok) (gv rv lv:Value) (out:Int) (ho1:0 ≤ out) (ho2:out < 65536) (w:World) (ht:IsTp w gv rv lv t) :
  Calls Try.prog 80 #[tpV t gv rv lv,.int .u16 out] w fun e w'=>Ext [] w w' ∧
   ((kTo (Z0D t out) 13 = none ∧ e = .returned (.tuple #[.agg (ZD fun _ _=>0),.bool false])) ∨ ∃ m',kTo (Z0D t out) 13 = some m' ∧ e = .returned (.tuple #[.agg (ZD m'),.bool true])):=
 Z8h t ok gv rv lv out ho1 ho2 w ht (Z7R ok out) (Z6v ok out)
theorem Z2L {m:Nat → Nat → Int} {l h:Nat} (hne:l ≠ h) (hl:l < 13) (hh:h < 13) {lo hi:Int} {x:Nat → Int} :
  sol (Z0A m l h lo hi) x ↔ sol m x ∧ lo ≤ x h - x l ∧ x h - x l ≤ hi:=by
 have e1:∀ i j,Z0A m l h lo hi i j = if i = h ∧ j = l then min (m h l) (-lo) else if i = l ∧ j = h then min (m l h) hi else m i j:=by
  intro i j
  unfold Z0A upd
  rw [if_neg (show ¬ (h = l ∧ l = h) by omega)]
 constructor
 ·intro H
  refine ⟨fun i j hi' hj'=>?_,?_,?_⟩
  ·have:=H i j hi' hj'
   rw [e1] at this
   split at this
   ·rename_i c;obtain ⟨rfl,rfl⟩:=c;omega
   ·split at this
    ·rename_i c;obtain ⟨rfl,rfl⟩:=c;omega
    ·exact this
  ·have:=H h l hh hl
   rw [e1,if_pos ⟨rfl,rfl⟩] at this
   omega
  ·have:=H l h hl hh
   rw [e1,if_neg (by omega),if_pos ⟨rfl,rfl⟩] at this
   omega
 ·rintro ⟨H,h1,h2⟩ i j hi' hj'
  have a:=H i j hi' hj'
  rw [e1]
  split
  ·rename_i c;obtain ⟨rfl,rfl⟩:=c;omega
  ·split
   ·rename_i c;obtain ⟨rfl,rfl⟩:=c;omega
   ·exact a
theorem ZaT {x:Nat → Int}:sol farM x ↔ ∀ i j,i < 13 → j < 13 → x j - x i ≤ 1048576:=by
 constructor
 ·intro H i j hi hj
  have:=H i j hi hj
  unfold farM at this
  split at this <;> omega
 ·intro H i j hi hj
  have:=H i j hi hj
  unfold farM
  split
  ·rename_i c;subst c;omega
  ·exact this
structure CellOk (t:Tp) (s a:Nat) (x:Nat → Int):Prop where
 lo:t.bl ≤ x (ZO s a) - x 0
 hi:x (ZO s a) - x 0 ≤ t.bm
 glo:0 < a → (t.gr.getD s (0,0)).1 ≤ x (ZO s a) - x (ZO s ((a:Int) - 1))
 ghi:0 < a → x (ZO s a) - x (ZO s ((a:Int) - 1)) ≤ (t.gr.getD s (0,0)).2
structure ReadOk (t:Tp) (r:Int × Int × Int × Int) (x:Nat → Int):Prop where
 lo:r.2.2.2 - t.sl ≤ x (ZO r.1 r.2.1) - x (Z0q r.2.2.1)
 hi:x (ZO r.1 r.2.1) - x (Z0q r.2.2.1) ≤ r.2.2.2 + t.sl
structure LinkOk (l:Int × Int × Int × Int × Int × Int) (x:Nat → Int):Prop where
 lo:l.2.2.2.2.1 ≤ x (ZO l.1 l.2.1) - x (ZO l.2.2.1 l.2.2.2.1)
 hi:x (ZO l.1 l.2.1) - x (ZO l.2.2.1 l.2.2.2.1) ≤ l.2.2.2.2.2
structure TailOk (t:Tp) (i:Nat) (x:Nat → Int):Prop where
 lo:-t.pm ≤ x (Z0q i) - x 0
 hi:x (Z0q i) - x 0 ≤ -t.pl
theorem Z6O (t:Tp) (m:Nat → Nat → Int) (s a:Nat):Z29 t m s (a + 1) = if (0:Int) < (a:Int) then Z0A (Z0A (Z29 t m s a) 0 (ZO s a) t.bl t.bm) (ZO s ((a:Int) - 1)) (ZO s a) ((t.gr.getD s (0,0)).1) ((t.gr.getD s (0,0)).2)
  else Z0A (Z29 t m s a) 0 (ZO s a) t.bl t.bm:=rfl
theorem Z6H (t:Tp) (m:Nat → Nat → Int) (s:Nat):Z1F t m (s + 1) = Z29 t (Z1F t m s) s t.A.toNat:=rfl
theorem Z6P (t:Tp) (m:Nat → Nat → Int) (i:Nat):Z28 t m (i + 1) = Z0A (Z28 t m i) 0 (Z0q i) (-t.pm) (-t.pl):=rfl
theorem Z6V (t:Tp) (out:Int) (m:Nat → Nat → Int) (i:Nat):Z1P t out m (i + 1) = if hasB out i then Z1P t out m i
  else Z0A (Z1P t out m i) (Z0q (t.rd.getD i (0,0,0,0)).2.2.1) (ZO (t.rd.getD i (0,0,0,0)).1 (t.rd.getD i (0,0,0,0)).2.1) ((t.rd.getD i (0,0,0,0)).2.2.2 - t.sl) ((t.rd.getD i (0,0,0,0)).2.2.2 + t.sl):=rfl
theorem Z6X (t:Tp) (m:Nat → Nat → Int) (i:Nat):Z3J t m (i + 1) = Z0A (Z3J t m i) (ZO (t.lk.getD i (0,0,0,0,0,0)).2.2.1 (t.lk.getD i (0,0,0,0,0,0)).2.2.2.1) (ZO (t.lk.getD i (0,0,0,0,0,0)).1 (t.lk.getD i (0,0,0,0,0,0)).2.1) (t.lk.getD i (0,0,0,0,0,0)).2.2.2.2.1 (t.lk.getD i (0,0,0,0,0,0)).2.2.2.2.2:=rfl
theorem Z7w {t:Tp} (ok:t.Ok) {m:Nat → Nat → Int} {s:Nat} (hs:(s:Int) < t.S) {x:Nat → Int}:∀ a:Nat,(a:Int) ≤ t.A → (sol (Z29 t m s a) x ↔ sol m x ∧ ∀ b < a,CellOk t s b x)
 | 0,_=>by simp [Z29]
 | a + 1,ha=>by
  have ih:=Z7w ok (m:=m) hs (x:=x) a (by omega)
  have o1:=ok.S3
  have o2:=ok.A3
  have key:sol (Z29 t m s (a + 1)) x ↔ sol (Z29 t m s a) x ∧ CellOk t s a x:=by
   rw [Z6O]
   split
   ·rename_i h0
    rw [Z2L (by unfold ZO;omega) (by unfold ZO;omega) (by unfold ZO;omega),Z2L (by unfold ZO;omega) (by omega) (by unfold ZO;omega)]
    constructor
    ·rintro ⟨⟨h1,h2,h3⟩,h4,h5⟩;exact ⟨h1,⟨h2,h3,fun _=>h4,fun _=>h5⟩⟩
    ·rintro ⟨h1,c⟩;exact ⟨⟨h1,c.lo,c.hi⟩,c.glo (by omega),c.ghi (by omega)⟩
   ·rename_i h0
    rw [Z2L (by unfold ZO;omega) (by omega) (by unfold ZO;omega)]
    constructor
    ·rintro ⟨h1,h2,h3⟩;exact ⟨h1,⟨h2,h3,fun h=>absurd h (by omega),fun h=>absurd h (by omega)⟩⟩
    ·rintro ⟨h1,c⟩;exact ⟨h1,c.lo,c.hi⟩
  rw [key,ih]
  constructor
  ·rintro ⟨⟨h1,h2⟩,h3⟩
   refine ⟨h1,fun b hb=>?_⟩
   by_cases e:b = a
   ·subst e;exact h3
   ·exact h2 b (by omega)
  ·rintro ⟨h1,h2⟩;exact ⟨⟨h1,fun b hb=>h2 b (by omega)⟩,h2 a (by omega)⟩
theorem Z7o {t:Tp} (ok:t.Ok) {m:Nat → Nat → Int} {x:Nat → Int}:∀ s:Nat,(s:Int) ≤ t.S → (sol (Z1F t m s) x ↔ sol m x ∧ ∀ p < s,∀ a:Nat,(a:Int) < t.A → CellOk t p a x)
 | 0,_=>by simp [Z1F]
 | s + 1,hs=>by
  have ih:=Z7o ok (m:=m) (x:=x) s (by omega)
  have o2:=ok.A1
  rw [Z6H,Z7w ok (by omega) _ (by omega),ih]
  constructor
  ·rintro ⟨⟨h1,h2⟩,h3⟩
   refine ⟨h1,fun p hp a ha=>?_⟩
   by_cases e:p = s
   ·subst e;exact h3 a (by omega)
   ·exact h2 p (by omega) a ha
  ·rintro ⟨h1,h2⟩;exact ⟨⟨h1,fun p hp=>h2 p (by omega)⟩,fun b hb=>h2 s (by omega) b (by omega)⟩
theorem Z79 {t:Tp} (ok:t.Ok) {m:Nat → Nat → Int} {x:Nat → Int}:∀ i:Nat,(i:Int) ≤ t.T → (sol (Z28 t m i) x ↔ sol m x ∧ ∀ p < i,TailOk t p x)
 | 0,_=>by simp [Z28]
 | i + 1,hi=>by
  have ih:=Z79 ok (m:=m) (x:=x) i (by omega)
  have o2:=ok.T3
  rw [Z6P,Z2L (by unfold Z0q;omega) (by omega) (by unfold Z0q;omega),ih]
  constructor
  ·rintro ⟨⟨h1,h2⟩,h3,h4⟩
   refine ⟨h1,fun p hp=>?_⟩
   by_cases e:p = i
   ·subst e;exact ⟨h3,h4⟩
   ·exact h2 p (by omega)
  ·rintro ⟨h1,h2⟩;exact ⟨⟨h1,fun p hp=>h2 p (by omega)⟩,(h2 i (by omega)).lo,(h2 i (by omega)).hi⟩
theorem Z7k {t:Tp} (ok:t.Ok) (out:Int) {m:Nat → Nat → Int} {x:Nat → Int}:∀ i:Nat,i ≤ t.rd.length → (sol (Z1P t out m i) x ↔ sol m x ∧ ∀ p < i,hasB out p = false → ReadOk t (t.rd.getD p (0,0,0,0)) x)
 | 0,_=>by simp [Z1P]
 | i + 1,hi=>by
  have ih:=Z7k ok out (m:=m) (x:=x) i (by omega)
  have g:=ok.rd (t.rd.getD i (0,0,0,0)) (Z0m _ (by omega))
  have o1:=ok.T3
  have o3:=ok.S3
  have o4:=ok.A3
  rw [Z6V]
  split
  ·rename_i hb
   rw [ih]
   constructor
   ·rintro ⟨h1,h2⟩
    refine ⟨h1,fun p hp hf=>?_⟩
    by_cases e:p = i
    ·subst e;rw [hb] at hf;cases hf
    ·exact h2 p (by omega) hf
   ·rintro ⟨h1,h2⟩;exact ⟨h1,fun p hp=>h2 p (by omega)⟩
  ·rename_i hb
   rw [Z2L (by unfold Z0q ZO;omega) (by unfold Z0q;omega) (by unfold ZO;omega),ih]
   constructor
   ·rintro ⟨⟨h1,h2⟩,h3,h4⟩
    refine ⟨h1,fun p hp hf=>?_⟩
    by_cases e:p = i
    ·subst e;exact ⟨h3,h4⟩
    ·exact h2 p (by omega) hf
   ·rintro ⟨h1,h2⟩
    have hf:hasB out i = false:=by simpa using hb
    exact ⟨⟨h1,fun p hp=>h2 p (by omega)⟩,(h2 i (by omega) hf).lo,(h2 i (by omega) hf).hi⟩
theorem Z7x {t:Tp} (ok:t.Ok) {m:Nat → Nat → Int} {x:Nat → Int}:∀ i:Nat,i ≤ t.lk.length → (sol (Z3J t m i) x ↔ sol m x ∧ ∀ p < i,LinkOk (t.lk.getD p (0,0,0,0,0,0)) x)
 | 0,_=>by simp [Z3J]
 | i + 1,hi=>by
  have ih:=Z7x ok (m:=m) (x:=x) i (by omega)
  have g:=ok.lk (t.lk.getD i (0,0,0,0,0,0)) (Z0m _ (by omega))
  obtain ⟨g1,g2,g3,g4,g5,g6,g7,g8,g9,g10,g11,g12⟩:=g
  have o3:=ok.S3
  have o4:=ok.A3
  rw [Z6X,Z2L (by unfold ZO;omega) (by unfold ZO;omega) (by unfold ZO;omega),ih]
  constructor
  ·rintro ⟨⟨h1,h2⟩,h3,h4⟩
   refine ⟨h1,fun p hp=>?_⟩
   by_cases e:p = i
   ·subst e;exact ⟨h3,h4⟩
   ·exact h2 p (by omega)
  ·rintro ⟨h1,h2⟩;exact ⟨⟨h1,fun p hp=>h2 p (by omega)⟩,(h2 i (by omega)).lo,(h2 i (by omega)).hi⟩
structure Tr (t:Tp) (out:Int) (x:Nat → Int):Prop where
 cell:∀ s a:Nat,(s:Int) < t.S → (a:Int) < t.A → CellOk t s a x
 tail:∀ i:Nat,(i:Int) < t.T → TailOk t i x
 read:∀ i < t.rd.length,hasB out i = false → ReadOk t (t.rd.getD i (0,0,0,0)) x
 link:∀ i < t.lk.length,LinkOk (t.lk.getD i (0,0,0,0,0,0)) x
def live (t:Tp) (i:Nat):Prop:=i = 0 ∨ (∃ s a:Nat,(s:Int) < t.S ∧ (a:Int) < t.A ∧ i = ZO s a) ∨ ∃ k:Nat,(k:Int) < t.T ∧ i = Z0q k
theorem Z2H (t:Tp):live t 0:=.inl rfl
theorem Z1r {t:Tp} {s a:Nat} (hs:(s:Int) < t.S) (ha:(a:Int) < t.A):live t (ZO s a):=.inr (.inl ⟨s,a,hs,ha,rfl⟩)
theorem Z2K {t:Tp} {k:Nat} (hk:(k:Int) < t.T):live t (Z0q k):=.inr (.inr ⟨k,hk,rfl⟩)
theorem Z2U {t:Tp} (ok:t.Ok) {i:Nat} (h:live t i):i < 13:=by
 have o1:=ok.S3
 have o2:=ok.A3
 have o3:=ok.T3
 rcases h with rfl | ⟨s,a,hs,ha,rfl⟩ | ⟨k,hk,rfl⟩
 ·omega
 ·unfold ZO;omega
 ·unfold Z0q;omega
theorem Z4N {t:Tp} (ok:t.Ok) (out:Int) {x:Nat → Int}:sol (Z0D t out) x ↔ (∀ i j,i < 13 → j < 13 → x j - x i ≤ 1048576) ∧ Tr t out x:=by
 have o1:=ok.S1
 have o2:=ok.T1
 unfold Z0D
 rw [Z7x ok _ (Nat.le_refl _),Z7k ok out _ (Nat.le_refl _),Z79 ok _ (by omega),Z7o ok _ (by omega),ZaT]
 constructor
 ·rintro ⟨⟨⟨⟨h1,h2⟩,h3⟩,h4⟩,h5⟩
  exact ⟨h1,⟨fun s a hs ha=>h2 s (by omega) a ha,fun i hi=>h3 i (by omega),h4,h5⟩⟩
 ·rintro ⟨h1,h⟩
  exact ⟨⟨⟨⟨h1,fun p hp a ha=>h.cell p a (by omega) ha⟩,fun p hp=>h.tail p (by omega)⟩,h.read⟩,h.link⟩
theorem Tr.congr {t:Tp} (ok:t.Ok) {out:Int} {x x':Nat → Int} (e:∀ i,live t i → x i = x' i) (h:Tr t out x):Tr t out x':=by
 have z:=e 0 (Z2H t)
 refine ⟨fun s a hs ha=>?_,fun i hi=>?_,fun i hi hb=>?_,fun i hi=>?_⟩
 ·have c:=h.cell s a hs ha
  have e1:=e _ (Z1r hs ha)
  refine ⟨by rw [← e1,← z];exact c.lo,by rw [← e1,← z];exact c.hi,fun h0=>?_,fun h0=>?_⟩
  all_goals
   have e2:=e _ (Z1r hs (a:=a - 1) (by omega))
   rw [show ((a - 1:Nat):Int) = (a:Int) - 1 by omega] at e2
   rw [← e1,← e2]
  ·exact c.glo h0
  ·exact c.ghi h0
 ·have c:=h.tail i hi
  have e1:=e _ (Z2K hi)
  exact ⟨by rw [← e1,← z];exact c.lo,by rw [← e1,← z];exact c.hi⟩
 ·have c:=h.read i hi hb
  have g:=ok.rd (t.rd.getD i (0,0,0,0)) (Z0m _ hi)
  generalize t.rd.getD i (0,0,0,0) = r at c g ⊢
  obtain ⟨r1,r2,r3,r4⟩:=r
  obtain ⟨g1,g2,g3,g4,g5,g6,g7⟩:=g
  try simp only at g1 g2 g3 g4 g5 g6 g7
  obtain ⟨r1,rfl⟩:=Int.eq_ofNat_of_zero_le g1
  obtain ⟨r2,rfl⟩:=Int.eq_ofNat_of_zero_le g3
  obtain ⟨r3,rfl⟩:=Int.eq_ofNat_of_zero_le g5
  have e1:=e _ (Z1r g2 g4)
  have e2:=e _ (Z2K g6)
  exact ⟨by show _ ≤ x' (ZO _ _) - x' _;rw [← e1,← e2];exact c.lo,by show x' (ZO _ _) - x' _ ≤ _;rw [← e1,← e2];exact c.hi⟩
 ·have c:=h.link i hi
  have g:=ok.lk (t.lk.getD i (0,0,0,0,0,0)) (Z0m _ hi)
  generalize t.lk.getD i (0,0,0,0,0,0) = r at c g ⊢
  obtain ⟨r1,r2,r3,r4,r5,r6⟩:=r
  obtain ⟨g1,g2,g3,g4,g5,g6,g7,g8,-⟩:=g
  try simp only at g1 g2 g3 g4 g5 g6 g7 g8
  obtain ⟨r1,rfl⟩:=Int.eq_ofNat_of_zero_le g1
  obtain ⟨r2,rfl⟩:=Int.eq_ofNat_of_zero_le g3
  obtain ⟨r3,rfl⟩:=Int.eq_ofNat_of_zero_le g5
  obtain ⟨r4,rfl⟩:=Int.eq_ofNat_of_zero_le g7
  have e1:=e _ (Z1r g2 g4)
  have e2:=e _ (Z1r g6 g8)
  exact ⟨by show _ ≤ x' (ZO _ _) - x' _;rw [← e1,← e2];exact c.lo,by show x' (ZO _ _) - x' _ ≤ _;rw [← e1,← e2];exact c.hi⟩
theorem Tr.near {t:Tp} (ok:t.Ok) {out:Int} {x:Nat → Int} (h:Tr t out x) {i:Nat} (hi:live t i):-1000 ≤ x i - x 0 ∧ x i - x 0 ≤ 1000:=by
 have o1:=ok.bl1
 have o2:=ok.bm1
 have o3:=ok.pl1
 have o4:=ok.pm1
 rcases hi with rfl | ⟨s,a,hs,ha,rfl⟩ | ⟨k,hk,rfl⟩
 ·omega
 ·have c:=h.cell s a hs ha
  have c1:=c.lo
  have c2:=c.hi
  constructor <;> omega
 ·have c:=h.tail k hk
  have c1:=c.lo
  have c2:=c.hi
  constructor <;> omega
open Classical in
noncomputable def trim (t:Tp) (x:Nat → Int):Nat → Int:=fun i=>if live t i then x i else x 0
theorem Z3F {t:Tp} {x:Nat → Int} {i:Nat} (h:live t i):trim t x i = x i:=by unfold trim;rw [if_pos h]
theorem Tr.trim {t:Tp} (ok:t.Ok) {out:Int} {x:Nat → Int} (h:Tr t out x):sol (Z0D t out) (trim t x):=by
 refine (Z4N ok out).2 ⟨fun i j _ _=>?_,h.congr ok fun i hi=>(Z3F hi).symm⟩
 have n0:=h.near ok (Z2H t)
 have key:∀ i,-1000 ≤ Go.Proofs.Ytholfdgebdlgjaa.trim t x i - x 0 ∧ Go.Proofs.Ytholfdgebdlgjaa.trim t x i - x 0 ≤ 1000:=fun i=>by
  by_cases c:live t i
  ·rw [Z3F c];exact h.near ok c
  ·unfold Go.Proofs.Ytholfdgebdlgjaa.trim;rw [if_neg c];omega
 have a:=key i
 have b:=key j
 omega
theorem Z5y {t:Tp} (ok:t.Ok) {out:Int}:kTo (Z0D t out) 13 = none ↔ ¬ ∃ x,Tr t out x:=by
 constructor
 ·rintro h ⟨x,hx⟩
  obtain ⟨y,hy,-⟩:=Z6y (hx.trim ok) 13 (Nat.le_refl _)
  rw [h] at hy;cases hy
 ·intro h
  cases e:kTo (Z0D t out) 13 with
  | none=>rfl
  | some y =>
   have hc:=Z2h (fun p _=>by rw [(Z1D ok out).2 p];exact Int.le_refl _) e
   exact absurd ⟨_,((Z4N ok out).1 (Z7v e (Z6a hc (show 0 < 13 by omega)))).2⟩ h
theorem Z1N {t:Tp} (ok:t.Ok) {out:Int} {x:Nat → Int} (h:Tr t out x):∃ y,kTo (Z0D t out) 13 = some y:=by
 cases e:kTo (Z0D t out) 13 with
 | none=>exact absurd ⟨x,h⟩ ((Z5y ok).1 e)
 | some y=>exact ⟨y,rfl⟩
theorem Zbn {t:Tp} (ok:t.Ok) {out:Int} {y:Nat → Nat → Int} (hy:kTo (Z0D t out) 13 = some y) {x:Nat → Int} (h:Tr t out x) {i j:Nat} (hi:live t i) (hj:live t j):x j - x i ≤ y i j:=by
 obtain ⟨y',hy',hs⟩:=Z6y (h.trim ok) 13 (Nat.le_refl _)
 rw [hy] at hy'
 obtain rfl:=Option.some.inj hy'
 have:=hs i j (Z2U ok hi) (Z2U ok hj)
 rwa [Z3F hi,Z3F hj] at this
theorem Z2S {t:Tp} (ok:t.Ok) {out:Int} {y:Nat → Nat → Int} (hy:kTo (Z0D t out) 13 = some y) {i:Nat} (hi:i < 13):Tr t out (fun j=>y i j) ∧ y i i = 0:=by
 have hc:=Z2h (fun p _=>by rw [(Z1D ok out).2 p];exact Int.le_refl _) hy
 refine ⟨((Z4N ok out).1 (Z7v hy (Z6a hc hi))).2,?_⟩
 have a:=hc.1 i hi
 have b:=Z53 i i hy
 rw [(Z1D ok out).2 i] at b
 omega
theorem Z4h {t:Tp} (ok:t.Ok) {out:Int} {y:Nat → Nat → Int} (hy:kTo (Z0D t out) 13 = some y) {i j:Nat} (hi:live t i) (hj:live t j) {n:Int} (hle:∀ x,Tr t out x → x j - x i ≤ n) {x:Nat → Int} (hx:Tr t out x) (he:x j - x i = n):y i j = n:=by
 obtain ⟨r1,r2⟩:=Z2S ok hy (Z2U ok hi)
 have a:=hle _ r1
 have b:=Zbn ok hy hx hi hj
 try simp only at a
 omega
end Go.Proofs.Ytholfdgebdlgjaa
