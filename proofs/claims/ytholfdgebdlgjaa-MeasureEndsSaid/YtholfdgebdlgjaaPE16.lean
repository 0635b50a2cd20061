/- Parts of a proof: Rq, LBou, Vh, Rx, Vr0, Vr, LLea. No conditions. -/
import Derived.Test.YtholfdgebdlgjaaPE8
import Derived.Test.YtholfdgebdlgjaaPE10
import Derived.Test.YtholfdgebdlgjaaPE11
import Derived.Test.YtholfdgebdlgjaaPE12
import Derived.Test.YtholfdgebdlgjaaPE13
import Derived.Test.YtholfdgebdlgjaaPE15
set_option linter.unusedVariables false
set_option linter.unusedSimpArgs false
namespace Go.Proofs.Ytholfdgebdlgjaa
open Go.RowKit
def begE (t:Tp) (b:Bool):Int:=if Z08 t ≠ 0 then Z08 t else if b = false then 3 else if bdB t 0 then 0 else 9
theorem Z1Z {t:Tp} {b:Bool} (h:begE t b = 0):t.Live ∧ b = true:=by
 unfold begE at h
 by_cases c:Z08 t = 0
 ·rw [if_neg (by omega)] at h
  cases b with
  | false=>rw [if_pos rfl] at h;exact absurd h (by decide)
  | true =>
   rw [if_neg (by decide)] at h
   cases hb:bdB t 0 with
   | false=>rw [hb] at h;exact absurd h (by decide)
   | true =>
    obtain ⟨ok,h8⟩:=Z0x.1 c
    exact ⟨ZaV ok h8 hb,rfl⟩
 ·rw [if_pos c] at h;exact absurd h c
theorem Z4P:∀ {es:List Int},(∀ e ∈ es,e = 0 ∨ e = 3) → ZU es = 0 ∨ ZU es = 3
 | [],_=>.inl rfl
 | e :: r,h=>by
  rcases h e (by simp) with h0 | h0
  ·rw [show ZU (e :: r) = ZU r by simp [ZU,h0]]
   exact Z4P fun x hx=>h x (by simp [hx])
  ·exact .inr (by simp [ZU,h0])
theorem ZaW (t:Tp) (xs:Nat → List Int) (i:Nat):askE t xs i = 0 ∨ askE t xs i = 3:=Z4P fun e he=>by
 obtain ⟨n,-,rfl⟩:=List.mem_map.1 he
 unfold Z0h
 split
 ·exact .inl rfl
 ·exact .inr rfl
theorem Z2I {t:Tp} {xs:Nat → List Int} {i:Nat}:askE t xs i = 0 ↔ ∀ n ∈ xs i,0 ≤ n ∧ n < lim t i:=by
 rw [askE,Z1M]
 exact ⟨fun h n hn=>Z1S.1 (h n hn),fun h n hn=>Z1S.2 (h n hn)⟩
theorem Za1 {t:Tp} (hc:Z08 t = 0) (xs ys zs:List Int) {b:Bool} (hb:b = true ↔ (∀ n ∈ xs,0 ≤ n ∧ n < t.S) ∧ (∀ n ∈ ys,0 ≤ n ∧ n < t.A) ∧ ∀ n ∈ zs,0 ≤ n ∧ n < t.T):Z1o t (sel3 xs ys zs) = if b = false then 3 else 0:=by
 have h03:ZU ((List.range 3).map (askE t (sel3 xs ys zs))) = 0 ∨ ZU ((List.range 3).map (askE t (sel3 xs ys zs))) = 3:=Z4P fun e he=>by
  obtain ⟨i,-,rfl⟩:=List.mem_map.1 he
  exact ZaW _ _ _
 have h0:ZU ((List.range 3).map (askE t (sel3 xs ys zs))) = 0 ↔ b = true:=by
  rw [hb,Z1M]
  constructor
  ·intro h
   exact ⟨Z2I.1 (h 0 (by decide)),Z2I.1 (h 1 (by decide)),Z2I.1 (h 2 (by decide))⟩
  ·rintro ⟨h1,h2,h3⟩ i hi
   have hi:=List.mem_range.1 hi
   rcases i with _ | _ | _ | i
   ·exact Z2I.2 h1
   ·exact Z2I.2 h2
   ·exact Z2I.2 h3
   ·omega
 rw [Z1o,if_neg (by omega)]
 cases b with
 | true=>rw [if_neg (by decide)];exact h0.2 rfl
 | false =>
  rw [if_pos rfl]
  rcases h03 with h | h
  ·exact absurd (h0.1 h) (by decide)
  ·exact h
theorem Z7X {t:Tp} (xs ys zs:List Int) {b:Bool} (hb:t.Ok → (b = true ↔ (∀ n ∈ xs,0 ≤ n ∧ n < t.S) ∧ (∀ n ∈ ys,0 ≤ n ∧ n < t.A) ∧ ∀ n ∈ zs,0 ≤ n ∧ n < t.T)):Z0j t (sel3 xs ys zs) = begE t b:=by
 unfold begE
 by_cases c:Z08 t = 0
 ·have ho:=Za1 c xs ys zs (hb (Z0x.1 c).1)
  rw [if_neg (by omega),Z0j,ho]
  cases b <;> simp
 ·rw [if_pos c,Z0j,Z1o,if_pos c,if_pos c]
theorem ZaO (t:Tp):Z0j t noX = begE t true:=by
 have h:=Z7X (t:=t) [] [] [] (b:=true) fun ok=>by simp
 have e:sel3 ([]:List Int) [] [] = noX:=by funext i;rcases i with _ | _ | _ | i <;> rfl
 rwa [e] at h
set_option maxRecDepth 100000 in
theorem Z75 {n:Nat} (hn:n ≤ 13) {oa:Option Addr} {oc:Nat} {va:Nat → Option Addr} {vc:Nat → Nat} {m:Nat → Nat → Int} {w:World} (h:MF w oa va vc n m) (x y:Nat) (hx:x < n) (hy:y < n) (l1:-100000 ≤ m y x) (l2:m y x ≤ 100000) :
  Calls Try.prog 95 #[.agg #[.slice oa n oc],.int .i64 x,.int .i64 y] w fun e w'=>e = .returned (.agg #[.int .i64 (-(m y x)),.int .i64 (m x y)]) ∧ Ext [] w w':=by
 have E:Ext [] w w:=Ext.refl _ _
 have HO:=Lib.hid h.o
 have HX:=Lib.hid (h.r x hx)
 have HY:=Lib.hid (h.r y hy)
 clear h
 refine Z01 25 Try.func95 rfl Try.ntmps95 (Nat.le_of_ble_eq_true rfl) ?_
 intro fa F
 refine wp_seq_k fun K1 hK1=>?_
 refine wp_region_lit ?_
 refine Z00 F rfl (by decide) rfl (Z0z rfl (F.at rfl)) ?_;clear F fa;intro fa w1 F hw
 obtain ⟨n3,hn⟩:∃ n,n = w.heap.size:=⟨_,rfl⟩
 rw [← hn] at F
 have s3:w.heap.size ≤ n3:=Nat.le_of_eq hn.symm
 have l3_E:w.heap.size ≤ n3:=by rw [hn];exact E.size
 replace E:=Z2 E hw
 have q3:=Zr hw hn
 clear hw hn
 refine Z00 F rfl (by decide) rfl (ZB rfl Try.zeroValue23) ?_;clear F fa;intro fa w2 F hw
 obtain ⟨n6,hn⟩:∃ n,n = w1.heap.size:=⟨_,rfl⟩
 rw [← hn] at F
 have s6:w1.heap.size ≤ n6:=Nat.le_of_eq hn.symm
 have l6_E:w.heap.size ≤ n6:=by rw [hn];exact E.size
 have m6_3:n3 < n6:=by rw [hn];exact Z7 q3
 replace q3:=Z1 hw q3
 replace E:=Z2 E hw
 have q6:=Zr hw hn
 clear hw hn
 refine wpList_nil ?_
 refine hK1 _ _ ?_
 clear hK1
 refine wp_seq_k fun K2 hK2=>?_
 refine Z0g 18 follows (by kernel_rfl) fun w3 hh eh=>?_
 replace q3:=Zn hh q3
 replace q6:=Zn hh q6
 replace E:=Z4 E eh
 clear hh eh
 refine F.sv (Z9 rfl (F.at rfl) Try.underlying111 rfl (n:=0) (sz:=1) rfl (by kernel_rfl) (by decide)) ?_;clear F fa;intro fa F
 refine F.sv (Zh rfl (F.at rfl) Try.underlying50 rfl ((Z0 q3 0).trans (get0))) ?_;clear F fa;intro fa F
 refine F.smv ?_;clear F fa;intro fa F
 obtain ⟨xb3,xo3,xa3,xr3⟩:=HO.out y (by omega)
 refine F.sv (ZJ (sz:=1) rfl ((F.at rfl).trans (xa3 _ _)) (F.at rfl) Try.underlying50 (by kernel_rfl) (by omega) (by omega)) ?_;clear F fa;intro fa F
 refine F.sv (Zh rfl (F.at rfl) Try.underlying29 rfl (xr3 _ E 0 _ rfl)) ?_;clear F fa;intro fa F
 refine F.smv ?_;clear F fa;intro fa F
 obtain ⟨xb4,xo4,xa4,xr4⟩:=HY.out x (by omega)
 refine F.sv (ZJ (sz:=1) rfl ((F.at rfl).trans (xa4 _ _)) (F.at rfl) Try.underlying29 (by kernel_rfl) (by omega) (by omega)) ?_;clear F fa;intro fa F
 refine F.sv (Zh rfl (F.at rfl) Try.underlying3 rfl (xr4 _ E 0 _ rfl)) ?_;clear F fa;intro fa F
 refine F.sv (Z6D rfl (F.at rfl) (by omega) (by omega)) ?_;clear F fa;intro fa F
 refine F.sv (Z9 rfl (F.at rfl) Try.underlying111 rfl (n:=0) (sz:=1) rfl (by kernel_rfl) (by decide)) ?_;clear F fa;intro fa F
 refine F.sv (Zh rfl (F.at rfl) Try.underlying50 rfl ((Z0 q3 0).trans (get0))) ?_;clear F fa;intro fa F
 refine F.smv ?_;clear F fa;intro fa F
 obtain ⟨xb5,xo5,xa5,xr5⟩:=HO.out x (by omega)
 refine F.sv (ZJ (sz:=1) rfl ((F.at rfl).trans (xa5 _ _)) (F.at rfl) Try.underlying50 (by kernel_rfl) (by omega) (by omega)) ?_;clear F fa;intro fa F
 refine F.sv (Zh rfl (F.at rfl) Try.underlying29 rfl (xr5 _ E 0 _ rfl)) ?_;clear F fa;intro fa F
 refine F.smv ?_;clear F fa;intro fa F
 obtain ⟨xb6,xo6,xa6,xr6⟩:=HX.out y (by omega)
 refine F.sv (ZJ (sz:=1) rfl ((F.at rfl).trans (xa6 _ _)) (F.at rfl) Try.underlying29 (by kernel_rfl) (by omega) (by omega)) ?_;clear F fa;intro fa F
 refine F.sv (Zh rfl (F.at rfl) Try.underlying3 rfl (xr6 _ E 0 _ rfl)) ?_;clear F fa;intro fa F
 refine F.sv (Z3O rfl (prS (F.at rfl) (prS (F.at rfl) pr0)) (cells:=#[.int .i64 (-(m y x)),.int .i64 (m x y)]) (by kernel_rfl)) ?_;clear F fa;intro fa F
 refine wpStill_nil ?_
 refine Z1L rfl rfl (Zg rfl (F.at rfl) (F.at rfl) (by kernel_rfl) (by first | (simp [Value.oneCell'];done) | (simp [Value.oneCell',Z0K,Z0B,Z0L];done)) q6 rfl) ?_;intro w4 hw
 replace q3:=Z5 hw q3 (by omega)
 replace q6:=Zz hw q6 rfl
 replace E:=Za E hw (fun h=>by first | exact absurd h (by omega) | simp)
 clear hw
 refine wpList_nil ?_
 refine hK2 _ _ ?_
 clear hK2
 refine wp_ret ?_
 (try simp only [Exit.inBlock,Exit.then])
 refine rt_v F (rs_c F rfl rfl Try.underlying23 rfl (by kernel_rfl) q6) ?_
 exact ⟨rfl,E⟩
def ZaQ (t:Tp) (n:Nat) (b:Bool) (w:World) (e:Ending) (w':World):Prop:=∃ oa k oc va vc,e = .returned (.tuple #[.agg #[.slice oa k oc],.int .i64 (begE t b)]) ∧ (begE t b = 0 → k = n) ∧ IsM w' w.heap.size oa oc va vc k (kTt n (Z1x t) n) ∧ Ext [] w w'
set_option maxRecDepth 100000 in
theorem Z3a (t:Tp) {n:Nat} (hn:t.Ok → (n:Int) = 1 + t.S * t.A + t.T) (b:Bool) (ga ra la:Option Addr) (gc rc lc:Nat) (w:World) (ht:IsTp w (.slice ga t.gr.length gc) (.slice ra t.rd.length rc) (.slice la t.lk.length lc) t) (l1:t.gr.length ≤ 1000) (l2:t.rd.length ≤ 1000) (l3:t.lk.length ≤ 1000) :
  Calls Try.prog 93 #[tpV t (.slice ga t.gr.length gc) (.slice ra t.rd.length rc) (.slice la t.lk.length lc),.bool b] w (ZaQ t n b w):=by
 have E:Ext [] w w:=Ext.refl _ _
 have HT:=Lib.hid ht
 clear ht
 unfold tpV
 refine Z01 27 Try.func93 rfl Try.ntmps93 (Nat.le_of_ble_eq_true rfl) ?_
 intro fa F
 refine wp_seq_k fun K1 hK1=>?_
 refine wp_region_lit ?_
 refine Z00 F rfl (by decide) rfl (Z0z rfl (F.at rfl)) ?_;clear F fa;intro fa w1 F hw
 obtain ⟨n2,hn⟩:∃ n,n = w.heap.size:=⟨_,rfl⟩
 rw [← hn] at F
 have s2:w.heap.size ≤ n2:=Nat.le_of_eq hn.symm
 have l2_E:w.heap.size ≤ n2:=by rw [hn];exact E.size
 replace E:=Z2 E hw
 have q2:=Zr hw hn
 clear hw hn
 refine Z00 F rfl (by decide) rfl (ZB rfl Try.zeroValue111) ?_;clear F fa;intro fa w2 F hw
 obtain ⟨n4,hn⟩:∃ n,n = w1.heap.size:=⟨_,rfl⟩
 rw [← hn] at F
 have s4:w1.heap.size ≤ n4:=Nat.le_of_eq hn.symm
 have l4_E:w.heap.size ≤ n4:=by rw [hn];exact E.size
 have m4_2:n2 < n4:=by rw [hn];exact Z7 q2
 replace q2:=Z1 hw q2
 replace E:=Z2 E hw
 have q4:=Zr hw hn
 clear hw hn
 refine F.vl (Z8 rfl (ev_c fa _)) ?_;clear F fa;intro fa F
 refine wpList_nil ?_
 refine hK1 _ _ ?_
 clear hK1
 refine wp_seq_k fun K2 hK2=>?_
 refine wp_seq_k fun K3 hK3=>?_
 refine wp_region_lit ?_
 refine F.vl (Zt rfl (F.at rfl) Try.underlying28 rfl (by kernel_rfl) q2) ?_;clear F fa;intro fa F
 refine ZX F rfl (by decide) rfl (ZG rfl rfl Try.call32 (mpS (F.at rfl) mp0)) (Z6p t ga ra la gc rc lc _ (HT.out.ext E (by simp)) l1 l2 l3) fun e w3 hR=>?_
 obtain ⟨rfl,e9⟩:=hR
 refine ⟨_,rfl,?_⟩;clear F fa;intro fa F
 replace q2:=(e9).keep0 q2
 replace q4:=(e9).keep0 q4
 replace E:=Z4 E (e9)
 clear e9
 refine F.as ?_;clear F fa;intro fa F
 refine wpList_nil ?_
 refine hK3 _ _ ?_
 clear hK3
 refine wp_seq_k fun K4 hK4=>?_
 refine wp_region_lit ?_
 refine F.mv ?_;clear F fa;intro fa F
 refine F.vl (Z3v rfl (F.at rfl) (ev_c fa _)) ?_;clear F fa;intro fa F
 refine wpList_nil ?_
 refine hK4 _ _ ?_
 clear hK4
 refine Z0J F rfl (fun hc12=>?_) (fun hc12=>?_)
 ·skip
  refine wp_seq_k fun K5 hK5=>?_
  refine wp_region_lit ?_
  refine F.vl (Z3O rfl pr0 (cells:=#[.slice none 0 0]) (by kernel_rfl)) ?_;clear F fa;intro fa F
  refine F.mv ?_;clear F fa;intro fa F
  refine Z1L rfl rfl (Zg rfl (F.at rfl) (F.at rfl) (by kernel_rfl) (by first | (simp [Value.oneCell'];done) | (simp [Value.oneCell',Z0K,Z0B,Z0L];done)) q4 rfl) ?_;intro w4 hw
  replace q2:=Z5 hw q2 (by omega)
  replace q4:=Zz hw q4 rfl
  replace E:=Za E hw (fun h=>by first | exact absurd h (by omega) | simp)
  clear hw
  refine F.as ?_;clear F fa;intro fa F
  refine wpList_nil ?_
  refine hK5 _ _ ?_
  clear hK5
  refine wp_ret ?_
  (try simp only [Exit.inBlock,Exit.then])
  refine rt_v F (Z7N F rfl rfl rfl Try.underlying111 rfl (by kernel_rfl) q4) ?_
  exact ⟨none,0,0,fun _=>none,fun _=>0,by rw [show begE t b = Z08 t from if_pos hc12],fun h=>absurd ((if_pos hc12).symm.trans h) hc12,Z6S _ _ _,E⟩
 ·skip
  refine wp_skip ?_
  refine hK2 _ _ ?_
  clear hK2
  refine wp_seq_k fun K6 hK6=>?_
  refine wp_seq_k fun K7 hK7=>?_
  refine wp_region_lit ?_
  refine F.mv ?_;clear F fa;intro fa F
  refine F.vl (Z45 rfl (F.at rfl)) ?_;clear F fa;intro fa F
  refine wpList_nil ?_
  refine hK7 _ _ ?_
  clear hK7
  refine cd_b F rfl (fun hc16=>?_) (fun hc16=>?_)
  ·skip
   refine wp_seq_k fun K8 hK8=>?_
   refine wp_region_lit ?_
   refine F.vl (Z3O rfl pr0 (cells:=#[.slice none 0 0]) (by kernel_rfl)) ?_;clear F fa;intro fa F
   refine Z1L rfl rfl (Zg rfl (F.at rfl) (F.at rfl) (by kernel_rfl) (by first | (simp [Value.oneCell'];done) | (simp [Value.oneCell',Z0K,Z0B,Z0L];done)) q4 rfl) ?_;intro w5 hw
   replace q2:=Z5 hw q2 (by omega)
   replace q4:=Zz hw q4 rfl
   replace E:=Za E hw (fun h=>by first | exact absurd h (by omega) | simp)
   clear hw
   refine F.vl (Z8 rfl (ev_c fa _)) ?_;clear F fa;intro fa F
   refine wpList_nil ?_
   refine hK8 _ _ ?_
   clear hK8
   refine wp_ret ?_
   (try simp only [Exit.inBlock,Exit.then])
   refine rt_v F (Z7N F rfl rfl rfl Try.underlying111 rfl (by kernel_rfl) q4) ?_
   exact ⟨none,0,0,fun _=>none,fun _=>0,by rw [show begE t b = 3 by unfold begE;rw [if_neg hc12,if_pos (by simpa using hc16)]],fun h=>absurd ((show begE t b = 3 by unfold begE;rw [if_neg hc12,if_pos (by simpa using hc16)]).symm.trans h) (by decide),Z6S _ _ _,E⟩
  ·skip
   refine wp_skip ?_
   refine hK6 _ _ ?_
   clear hK6
   refine wp_seq_k fun K9 hK9=>?_
   have hc0:Z08 t = 0:=by omega
   obtain ⟨ok,h8⟩:=Z0x.1 hc0
   refine wp_region_lit ?_
   refine F.vl (Zt rfl (F.at rfl) Try.underlying28 rfl (by kernel_rfl) q2) ?_;clear F fa;intro fa F
   have hle:=E.size
   refine ZX F rfl (by decide) rfl (ZG rfl rfl Try.call81 (mpS (F.at rfl) mp0)) (Z5M ok (hn ok) ga ra la gc rc lc _ (HT.out.ext E (by simp))) fun e w6 hR=>?_
   obtain ⟨oa,oc,va,vc,rfl,ism,eX⟩:=hR
   refine ⟨_,rfl,?_⟩;clear F fa;intro fa F
   replace q2:=(eX).keep0 q2
   replace q4:=(eX).keep0 q4
   replace E:=Z4 E (eX)
   replace ism:=Z4y ism hle
   refine F.mv ?_;clear F fa;intro fa F
   refine F.vl (Zm rfl (F.at rfl) (get0)) ?_;clear F fa;intro fa F
   refine F.vl (Zm rfl (F.at rfl) (getS (get0))) ?_;clear F fa;intro fa F
   refine Z00 F rfl (by decide) rfl (ZB rfl Try.zeroValue111) ?_;clear F fa;intro fa w7 F hw
   obtain ⟨n7,hn⟩:∃ n,n = w6.heap.size:=⟨_,rfl⟩
   rw [← hn] at F
   have s7:w6.heap.size ≤ n7:=Nat.le_of_eq hn.symm
   have l7_E:w.heap.size ≤ n7:=by rw [hn];exact E.size
   have m7_2:n2 < n7:=by rw [hn];exact Z7 q2
   have m7_4:n4 < n7:=by rw [hn];exact Z7 q4
   replace ism:=Z0i ism (fun _ _ _ h=>Zc hw h) (fun _ _ _ h=>Zc hw h)
   replace q2:=Z1 hw q2
   replace q4:=Z1 hw q4
   replace E:=Z2 E hw
   have q7:=Zr hw hn
   clear hw hn
   refine Z1L rfl rfl (Zg rfl (F.at rfl) (F.at rfl) (by kernel_rfl) (by first | (simp [Value.oneCell'];done) | (simp [Value.oneCell',Z0K,Z0B,Z0L];done)) q7 rfl) ?_;intro w8 hw
   replace ism:=Z0i ism (fun _ _ _ h=>Zu hw h (Z6 h q7 (by decide))) (fun _ _ _ h=>Zu hw h (Z6 h q7 (by decide)))
   replace q2:=Z5 hw q2 (by omega)
   replace q4:=Z5 hw q4 (by omega)
   replace q7:=Zz hw q7 rfl
   replace E:=Za E hw (fun h=>by first | exact absurd h (by omega) | simp)
   clear hw
   refine F.as ?_;clear F fa;intro fa F
   refine wpList_nil ?_
   refine hK9 _ _ ?_
   clear hK9
   refine wp_seq_k fun K10 hK10=>?_
   refine wp_seq_k fun K11 hK11=>?_
   refine wp_region_lit ?_
   refine F.mv ?_;clear F fa;intro fa F
   refine F.vl (Z45 rfl (F.at rfl)) ?_;clear F fa;intro fa F
   refine wpList_nil ?_
   have hbt:b = true:=by simpa using hc16
   refine hK11 _ _ ?_
   clear hK11
   refine cd_b F rfl (fun hc24=>?_) (fun hc24=>?_)
   ·skip
    refine wp_seq_k fun K12 hK12=>?_
    refine wp_region_lit ?_
    refine F.vl (Z3O rfl pr0 (cells:=#[.slice none 0 0]) (by kernel_rfl)) ?_;clear F fa;intro fa F
    refine Z1L rfl rfl (Zg rfl (F.at rfl) (F.at rfl) (by kernel_rfl) (by first | (simp [Value.oneCell'];done) | (simp [Value.oneCell',Z0K,Z0B,Z0L];done)) q4 rfl) ?_;intro w9 hw
    replace ism:=Z0i ism (fun _ _ _ h=>Zu hw h (Z6 h q4 (by decide))) (fun _ _ _ h=>Zu hw h (Z6 h q4 (by decide)))
    replace q2:=Z5 hw q2 (by omega)
    replace q4:=Zz hw q4 rfl
    replace q7:=Z5 hw q7 (by omega)
    replace E:=Za E hw (fun h=>by first | exact absurd h (by omega) | simp)
    clear hw
    refine F.vl (Z8 rfl (ev_c fa _)) ?_;clear F fa;intro fa F
    refine wpList_nil ?_
    refine hK12 _ _ ?_
    clear hK12
    refine wp_ret ?_
    (try simp only [Exit.inBlock,Exit.then])
    refine rt_v F (Z7N F rfl rfl rfl Try.underlying111 rfl (by kernel_rfl) q4) ?_
    exact ⟨none,0,0,fun _=>none,fun _=>0,by rw [show begE t b = 9 by unfold begE;rw [if_neg hc12,if_neg (by rw [hbt];decide),show bdB t 0 = false by simpa using hc24];rfl],fun h=>absurd ((show begE t b = 9 by unfold begE;rw [if_neg hc12,if_neg (by rw [hbt];decide),show bdB t 0 = false by simpa using hc24];rfl).symm.trans h) (by decide),Z6S _ _ _,E⟩
   ·skip
    refine wp_skip ?_
    refine hK10 _ _ ?_
    clear hK10
    refine wp_seq_k fun K13 hK13=>?_
    refine wp_region_lit ?_
    refine F.vl (Zt rfl (F.at rfl) Try.underlying111 rfl (by kernel_rfl) q7) ?_;clear F fa;intro fa F
    refine Z1L rfl rfl (Zg rfl (F.at rfl) (F.at rfl) (by kernel_rfl) (by first | (simp [Value.oneCell'];done) | (simp [Value.oneCell',Z0K,Z0B,Z0L];done)) q4 rfl) ?_;intro w10 hw
    replace ism:=Z0i ism (fun _ _ _ h=>Zu hw h (Z6 h q4 (by decide))) (fun _ _ _ h=>Zu hw h (Z6 h q4 (by decide)))
    replace q2:=Z5 hw q2 (by omega)
    replace q4:=Zz hw q4 rfl
    replace q7:=Z5 hw q7 (by omega)
    replace E:=Za E hw (fun h=>by first | exact absurd h (by omega) | simp)
    clear hw
    refine F.vl (Z8 rfl (ev_c fa _)) ?_;clear F fa;intro fa F
    refine wpList_nil ?_
    refine hK13 _ _ ?_
    clear hK13
    refine wp_ret ?_
    (try simp only [Exit.inBlock,Exit.then])
    refine rt_v F (Z7N F rfl rfl rfl Try.underlying111 rfl (by kernel_rfl) q4) ?_
    exact ⟨oa,n,oc,va,vc,by rw [show begE t b = 0 by unfold begE;rw [if_neg hc12,if_neg (by rw [hbt];decide),show bdB t 0 = true by simpa using hc24];rfl],fun _=>rfl,ism,E⟩
theorem Z2X {t:Tp} (ok:t.Ok) {n:Nat} (hn:(n:Int) = 1 + t.S * t.A + t.T):n ≤ 13 ∧ 0 < n:=by
 have:=Z4u ok
 have:=ok.T3
 have:=ok.T1
 omega
theorem ZaI {t:Tp} (ok:t.Ok) {n:Nat} (hn:(n:Int) = 1 + t.S * t.A + t.T) {s a:Int} (s0:0 ≤ s) (s1:s < t.S) (a0:0 ≤ a) (a1:a < t.A):rnI t s a < n:=by
 obtain ⟨e1,e2,e3,e4⟩:=Z3x ok s0 s1 a0 a1
 have:=ok.T1
 omega
theorem Zbe {t:Tp} (ok:t.Ok) {n:Nat} (hn:(n:Int) = 1 + t.S * t.A + t.T) {i:Int} (i0:0 ≤ i) (i1:i < t.T):rpI t i < n:=by
 obtain ⟨e1,e2,e3⟩:=Z6F ok i0
 omega
theorem ZaZ {w W:World} {a:Option Addr} {n c:Nat} {zs:List Int} (h:Z62 .i64 w a n c zs) (e:Ext [] w W):Z62 .i64 W a n c zs:=by
 rcases h with h | ⟨x,rfl,hl,hm,hz,hc,hw⟩
 ·exact .inl h
 ·refine .inr ⟨x,rfl,hl,hm,hz,fun i hi=>?_,hw⟩
  have:=hc i hi
  have hb:(x.add i).block < w.heap.size:=by
   unfold World.cell? at this
   cases hq:w.heap[(x.add i).block]? with
   | none=>simp [hq] at this
   | some o=>exact (Array.getElem?_eq_some_iff.1 hq).1
  rw [e.cell hb (by simp)]
  exact this
theorem Zbr (t:Tp):∃ n:Nat,t.Ok → (n:Int) = 1 + t.S * t.A + t.T:=⟨(1 + t.S * t.A + t.T).toNat,fun ok=>by have:=Z4u ok;have:=ok.T1;omega⟩
theorem Tr.shift {t:Tp} {x:Nat → Int} (h:Tr t 0 x) (c:Int):Tr t 0 (fun k=>x k + c):=
 ⟨fun s a hs ha=>by
  have q:=h.cell s a hs ha
  have q1:=q.lo
  have q2:=q.hi
  refine ⟨by show _ ≤ (x _ + c) - (x _ + c);omega,by show (x _ + c) - (x _ + c) ≤ _;omega,fun h0=>?_,fun h0=>?_⟩
  ·have:=q.glo h0
   show _ ≤ (x _ + c) - (x _ + c)
   omega
  ·have:=q.ghi h0
   show (x _ + c) - (x _ + c) ≤ _
   omega,
 fun i hi=>by
  have q:=h.tail i hi
  have q1:=q.lo
  have q2:=q.hi
  exact ⟨by show _ ≤ (x _ + c) - (x _ + c);omega,by show (x _ + c) - (x _ + c) ≤ _;omega⟩,
 fun i hi hb=>by
  have q:=h.read i hi hb
  have q1:=q.lo
  have q2:=q.hi
  exact ⟨by show _ ≤ (x _ + c) - (x _ + c);omega,by show (x _ + c) - (x _ + c) ≤ _;omega⟩,
 fun i hi=>by
  have q:=h.link i hi
  have q1:=q.lo
  have q2:=q.hi
  exact ⟨by show _ ≤ (x _ + c) - (x _ + c);omega,by show (x _ + c) - (x _ + c) ≤ _;omega⟩⟩
theorem ZaC {t:Tp} (ok:t.Ok) (hb:bdB t 0 = true) {n:Nat} (hn:(n:Int) = 1 + t.S * t.A + t.T) {i j:Nat} (hi:i < n) (hj:j < n):kTt n (Z1x t) n i j = bdV t 0 (phi_ t j) (phi_ t i):=by
 have hy:=Z6E hb
 have hd:=(Z6Z ok hn).2 hb
 have lj:=Z3j ok hn hj
 have t1:∀ x,Tr t 0 x → x (phi_ t i) - x (phi_ t j) ≤ bdV t 0 (phi_ t j) (phi_ t i):=fun x hx=>Zbn ok hy hx lj (Z3j ok hn hi)
 obtain ⟨x,hx,e⟩:∃ x,Tr t 0 x ∧ x (phi_ t i) - x (phi_ t j) = bdV t 0 (phi_ t j) (phi_ t i):=⟨_,(Z2S ok hy (Z2U ok lj)).1,by rw [(Z2S ok hy (Z2U ok lj)).2];omega⟩
 have a:=Z5N (Z8n ok hn hx) n (Nat.le_refl _) i j hi hj
 have hR:=Z64 hd hi
 have b:=t1 _ ((Z41 ok hn).1 hR).2
 rw [Z8c ok hn _ hi,Z8c ok hn _ hj] at b
 have z1:=hd i hi
 have z2:=Z61 n (Z1x t) i i n
 have z3:=(Z67 ok i i).2.2
 simp only at a b
 omega
theorem ZbB {t:Tp} (ok:t.Ok) (hb:bdB t 0 = true) {i j:Nat} (hi:live t i) (hj:live t j):-2000 ≤ bdV t 0 i j ∧ bdV t 0 i j ≤ 2000:=by
 have hy:=Z6E hb
 obtain ⟨r1,r2⟩:=Z2S ok hy (Z2U ok hi)
 have a:=r1.near ok hj
 have b:=r1.near ok hi
 try simp only at a b
 omega
theorem Z2C {t:Tp} (ok:t.Ok) (hb:bdB t 0 = true) {n:Nat} (hn:(n:Int) = 1 + t.S * t.A + t.T) {i j:Nat} (hi:i < n) (hj:j < n):kTt n (Z1x t) n i j = bdV t 0 (phi_ t j) (phi_ t i) ∧ -100000 ≤ kTt n (Z1x t) n i j ∧ kTt n (Z1x t) n i j ≤ 100000:=by
 have e:=ZaC ok hb hn hi hj
 have:=ZbB ok hb (Z3j ok hn hj) (Z3j ok hn hi)
 exact ⟨e,by omega,by omega⟩
theorem Z4r {w w':World} {base B1 n:Nat} {v:Value} {xs:List Value} {L:List (Value × List Int)} (fam:FamT w base L) (hlt:∀ q ∈ L,∀ b,q.1.ownBlock = some b → b < B1) (ro:w.ownsRow B1 3 1 v n xs) (hg:w.grownBy w' v.ownBlock):FamT w' base L:=
 ⟨fun p hp=>(fam.1 p hp).kept hg (by
  cases hq:p.1.ownBlock with
  | none=>exact .inl rfl
  | some b =>
   refine .inr fun e=>?_
   have:=hlt p hp b hq
   have:=(ro.lt b e.symm).1
   omega),fam.2⟩
theorem Z4K (x:Int):∀ u ∈ Z0Q x,u.oneCell' = true:=by simp [Z0Q,Value.oneCell']
section
variable {P:Program} {ρ:Operand → Value} {o:Oper} {w:World}
theorem Z8s {x:Operand} {f:FuncId} {l:List Operand} {ts:Array TypeId} {vs:List Value} (ho:o.op = .call { callee:=.value x,args:=l.toArray,argTypes:=ts }) (hf:ρ x = .func (.func f) #[] #[]) (hc:∀ args w,(callFunc f args).run P w = .ok (.enter f args) w) (ha:l.map ρ = vs):(execOp ρ o).run P w = .ok (.enter f vs.toArray) w:=by
 have ha:=Zb7 ha
 rw [← ha]
 unfold execOp
 simp [ho,resolve,hf,invoke,hc,go_sem]
end
theorem Z1X {w w':World} {a:Option Addr} {sz n:Nat} {row:Nat → List Value} (h:SlAt [] w a sz n row) (e:Ext [] w w'):SlAt [] w' a sz n row:=fun i hi=>by
 obtain ⟨xb,xo,h1,h2⟩:=h i hi
 exact ⟨xb,xo,h1,fun W hW=>h2 W (e.nil hW)⟩
theorem Z6e {t:Tp} (ok:t.Ok) (h8:t.rd.length ≤ 8) {gv rv lv:Value} {W:World} (ht:IsTp W gv rv lv t) :
  Calls Try.prog 90 #[tpV t gv rv lv,.slice none 0 0,.slice none 0 0,.slice none 0 0] W fun e w'=>e = .returned (.tuple #[tpV t gv rv lv,.agg (ZD (bdV t 0)),.int .i64 (qe t)]) ∧ Ext [] W w':=by
 have c:=Z1R t gv rv lv noX (fun _=>none) (fun _=>0) W ht (by have:=ok.grl;have:=ok.S3;omega) (by omega) (by have:=ok.lkl;omega) (fun i hi=>Z0M _ _ _) (fun i hi=>by simp [noX])
 have hc:=Z7b ok h8
 have h1:Z1o t noX = 0:=(Z2v t).trans hc
 have h2:Z0j t noX = qe t:=by
  unfold Z0j qe
  rw [if_neg (by omega)]
 rw [Z2V h1,show Z1g t noX = bdV t 0 from if_pos h1,h2] at c
 exact c
theorem Z8z {t:Tp} (h:t.Live) (s a:Nat) (hs:(s:Int) < t.S) (ha:(a:Int) < t.A) (W:World) :
  Calls Try.prog 91 #[.agg (ZD (bdV t 0)),.int .i64 0,.int .i64 (ZO s a:Nat)] W fun e w'=>e = .returned (.agg #[.int .i64 (mlo t s a),.int .i64 (mhi t s a)]) ∧ Ext [] W w':=by
 have k1:=h.ok.S3
 have k2:=h.ok.A3
 have hc:ZO s a < 13:=by unfold ZO;omega
 exact Z4q (bdV t 0) 0 (ZO s a) (by omega) hc (Z47 h.ok 0 hc (by omega)) W
theorem Z8Z {t:Tp} (h:t.Live) (i:Nat) (hi:(i:Int) < t.T) (W:World) :
  Calls Try.prog 97 #[.agg (ZD (bdV t 0)),.int .i64 (i:Nat)] W fun e w'=>e = .returned (.agg #[.int .i64 (plo t i),.int .i64 (phi t i)]) ∧ Ext [] W w':=by
 have k1:=h.ok.T3
 have hb:=Z47 h.ok 0 (p:=0) (q:=Z0q i) (by omega) (by unfold Z0q;omega)
 exact (Z7p (bdV t 0) i W (by omega) (by omega) hb.1 hb.2).mono fun e w' hr=>⟨hr.1,Ext.of_below hr.2⟩
def endL (t:Tp) (pe:Int → Int → Int):List (List Int):=(List.range t.S.toNat).map fun s=>(List.range t.A.toNat).map fun a=>pe (mlo t (s:Nat) (a:Nat)) (mhi t (s:Nat) (a:Nat))
def Zau (t:Tp) (po:Int → Int → Int):List Int:=(List.range t.T.toNat).map fun i=>po (plo t (i:Nat)) (phi t (i:Nat))
def Z5D (t:Tp) (pe po:Int → Int → Int) (w:World) (e:Ending) (w':World):Prop:=
 ∃ (L:List (Value × List Int)) (P:List Int) (a pa:Option Addr) (c pc:Nat),e = .returned (.tuple #[.slice a L.length c,.slice pa P.length pc,.int .i64 0]) ∧ L.map (·.2) = endL t pe ∧ P = Zau t po ∧
  SlAt [] w' a 1 L.length (fun i=>[(L.getD i (.bool true,[])).1]) ∧ (∀ p ∈ L,Z4T w' p.1 p.2) ∧ Z0E w' (.slice pa P.length pc) 1 (P.map Z0Q) ∧ Ext [] w w'
set_option maxRecDepth 100000 in
theorem Zb0 {t:Tp} (ok:t.Ok) (h8:t.rd.length ≤ 8) (hb:bdB t 0 = false) (fe fo:FuncId) (ga ra la:Option Addr) (gc rc lc:Nat) (w:World) (ht:IsTp w (.slice ga t.gr.length gc) (.slice ra t.rd.length rc) (.slice la t.lk.length lc) t) :
  Calls Try.prog 117 #[tpV t (.slice ga t.gr.length gc) (.slice ra t.rd.length rc) (.slice la t.lk.length lc),.func (.func fe) #[] #[],.func (.func fo) #[] #[]] w fun e w'=>e = .returned (.tuple #[.slice none 0 0,.slice none 0 0,.int .i64 9]) ∧ Ext [] w w':=by
 have E:Ext [] w w:=Ext.refl _ _
 have hq:qe t = 9:=by rw [qe,hb];rfl
 have HT:=Lib.hid ht
 clear ht
 have HK:=Lib.hid (fun W (h:Ext [] w W)=>Z6e ok h8 (HT.out.ext h (by simp)))
 rw [hq] at HK
 clear hq hb
 unfold tpV at HK ⊢
 refine Z01 72 Try.func117 rfl Try.ntmps117 (Nat.le_of_ble_eq_true rfl) ?_
 intro fa F
 refine wp_seq_k fun K1 hK1=>?_
 refine wp_region_lit ?_
 refine Z00 F rfl (by decide) rfl (Z0z rfl (F.at rfl)) ?_;clear F fa;intro fa w1 F hw
 obtain ⟨n3,hn⟩:∃ n,n = w.heap.size:=⟨_,rfl⟩
 rw [← hn] at F
 have s3:w.heap.size ≤ n3:=Nat.le_of_eq hn.symm
 have l3_E:w.heap.size ≤ n3:=by rw [hn];exact E.size
 replace E:=Z2 E hw
 have q3:=Zr hw hn
 clear hw hn
 refine F.vl (Z8 rfl (ev_c fa _)) ?_;clear F fa;intro fa F
 refine F.vl (Z8 rfl (ev_c fa _)) ?_;clear F fa;intro fa F
 refine F.vl (Z8 rfl (ev_c fa _)) ?_;clear F fa;intro fa F
 refine wpList_nil ?_
 refine hK1 _ _ ?_
 clear hK1
 refine wp_seq_k fun K2 hK2=>?_
 refine wp_region_lit ?_
 refine F.vl (Zt rfl (F.at rfl) Try.underlying28 rfl (by kernel_rfl) q3) ?_;clear F fa;intro fa F
 refine ZX F rfl (by decide) rfl (ZG rfl rfl Try.call90 (mpS (F.at rfl) (mpS (ev_c fa _) (mpS (ev_c fa _) (mpS (ev_c fa _) mp0))))) (HK.out _ E) fun e w2 hR=>?_
 obtain ⟨rfl,e9⟩:=hR
 refine ⟨_,rfl,?_⟩;clear F fa;intro fa F
 replace q3:=(e9).keep0 q3
 replace E:=Z4 E (e9)
 clear e9
 refine F.mv ?_;clear F fa;intro fa F
 refine F.vl (Zm rfl (F.at rfl) (get0)) ?_;clear F fa;intro fa F
 refine F.vl (Zm rfl (F.at rfl) (getS (get0))) ?_;clear F fa;intro fa F
 refine F.vl (Zm rfl (F.at rfl) (getS (getS (get0)))) ?_;clear F fa;intro fa F
 refine Z00 F rfl (by decide) rfl (ZB rfl Try.zeroValue100) ?_;clear F fa;intro fa w3 F hw
 obtain ⟨n9,hn⟩:∃ n,n = w2.heap.size:=⟨_,rfl⟩
 rw [← hn] at F
 have s9:w2.heap.size ≤ n9:=Nat.le_of_eq hn.symm
 have l9_E:w.heap.size ≤ n9:=by rw [hn];exact E.size
 have m9_3:n3 < n9:=by rw [hn];exact Z7 q3
 replace q3:=Z1 hw q3
 replace E:=Z2 E hw
 have q9:=Zr hw hn
 clear hw hn
 refine Z00 F rfl (by decide) rfl (ZB rfl Try.zeroValue105) ?_;clear F fa;intro fa w4 F hw
 obtain ⟨n10,hn⟩:∃ n,n = w3.heap.size:=⟨_,rfl⟩
 rw [← hn] at F
 have s10:w3.heap.size ≤ n10:=Nat.le_of_eq hn.symm
 have l10_E:w.heap.size ≤ n10:=by rw [hn];exact E.size
 have m10_3:n3 < n10:=by rw [hn];exact Z7 q3
 have m10_9:n9 < n10:=by rw [hn];exact Z7 q9
 replace q3:=Z1 hw q3
 replace q9:=Z1 hw q9
 replace E:=Z2 E hw
 have q10:=Zr hw hn
 clear hw hn
 refine Z1L rfl rfl (Zg rfl (F.at rfl) (F.at rfl) (by kernel_rfl) (by first | (simp [Value.oneCell'];done) | (simp [Value.oneCell',Z0K,Z0B,Z0L];done)) q9 rfl) ?_;intro w5 hw
 replace q3:=Z5 hw q3 (by omega)
 replace q9:=Zz hw q9 rfl
 replace q10:=Z5 hw q10 (by omega)
 replace E:=Za E hw (fun h=>by first | exact absurd h (by omega) | simp)
 clear hw
 refine Z1L rfl rfl (Zg rfl (F.at rfl) (F.at rfl) (by rw [Zj];kernel_rfl) (by rw [← ZI];exact all_oneCell_toArray (Z05 _)) q10 (by show Try.zeroCells105.size = _;rw [Try.zeroCells105_size,Zj])) ?_;intro w6 hw
 replace q3:=Z5 hw q3 (by omega)
 replace q9:=Z5 hw q9 (by omega)
 replace q10:=Zz hw q10 (by show Try.zeroCells105.size = _;rw [Try.zeroCells105_size,Zj])
 replace E:=Za E hw (fun h=>by first | exact absurd h (by omega) | simp)
 clear hw
 refine F.as ?_;clear F fa;intro fa F
 refine wpList_nil ?_
 refine hK2 _ _ ?_
 clear hK2
 refine wp_seq_k fun K3 hK3=>?_
 refine wp_seq_k fun K4 hK4=>?_
 refine wp_region_lit ?_
 refine F.mv ?_;clear F fa;intro fa F
 refine F.vl (Z2l (b:=true) rfl (F.at rfl) (ev_c fa _) (by decide)) ?_;clear F fa;intro fa F
 refine wpList_nil ?_
 refine hK4 _ _ ?_
 clear hK4
 refine cd_T F rfl ?_
 refine wp_seq_k fun K5 hK5=>?_
 refine wp_region_lit ?_
 refine F.mv ?_;clear F fa;intro fa F
 refine F.vl (Z8 rfl (ev_c fa _)) ?_;clear F fa;intro fa F
 refine F.vl (Z8 rfl (ev_c fa _)) ?_;clear F fa;intro fa F
 refine F.as ?_;clear F fa;intro fa F
 refine wpList_nil ?_
 refine hK5 _ _ ?_
 clear hK5
 refine wp_ret ?_
 (try simp only [Exit.inBlock,Exit.then])
 refine rt_v F (rs_3 F rfl rfl rfl rfl) ?_
 exact ⟨rfl,E⟩
def rowL (t:Tp) (pe:Int → Int → Int) (s:Nat) (j:Nat):List Int:=(List.range j).map fun a=>pe (mlo t (s:Nat) (a:Nat)) (mhi t (s:Nat) (a:Nat))
theorem Z4s (t:Tp) (pe:Int → Int → Int) (s j:Nat):rowL t pe s (j + 1) = rowL t pe s j ++ [pe (mlo t (s:Nat) (j:Nat)) (mhi t (s:Nat) (j:Nat))]:=by simp [rowL,List.range_succ]
set_option maxRecDepth 100000 in
set_option maxHeartbeats 1000000 in
theorem Z7f {t:Tp} (hL:t.Live) (fe fo:FuncId) (pe po:Int → Int → Int) (hce:∀ args w,(callFunc fe args).run Try.prog w = .ok (.enter fe args) w) (hco:∀ args w,(callFunc fo args).run Try.prog w = .ok (.enter fo args) w)
  (hfe:∀ a b W,Calls Try.prog fe #[.agg #[.int .i64 a,.int .i64 b]] W fun e w'=>e = .returned (.int .i64 (pe a b)) ∧ Ext [] W w') (hfo:∀ a b W,Calls Try.prog fo #[.agg #[.int .i64 a,.int .i64 b]] W fun e w'=>e = .returned (.int .i64 (po a b)) ∧ Ext [] W w')
  (ga ra la:Option Addr) (gc rc lc:Nat) (w:World) (ht:IsTp w (.slice ga t.gr.length gc) (.slice ra t.rd.length rc) (.slice la t.lk.length lc) t) :
  Calls Try.prog 117 #[tpV t (.slice ga t.gr.length gc) (.slice ra t.rd.length rc) (.slice la t.lk.length lc),.func (.func fe) #[] #[],.func (.func fo) #[] #[]] w (Z5D t pe po w):=by
 have E:Ext [] w w:=Ext.refl _ _
 have ok:=hL.ok
 have o1:=ok.S1
 have o2:=ok.S3
 have o3:=ok.A1
 have o4:=ok.A3
 have o5:=ok.T1
 have o6:=ok.T3
 have hq:qe t = 0:=Z8O.2 hL.bdB
 have HT:=Lib.hid ht
 clear ht
 have HK:=Lib.hid (fun W (h:Ext [] w W)=>Z6e ok hL.rd8 (HT.out.ext h (by simp)))
 rw [hq] at HK
 have Hce:=Lib.hid hce
 have Hco:=Lib.hid hco
 have Hfe:=Lib.hid hfe
 have Hfo:=Lib.hid hfo
 clear hq hce hco hfe hfo
 have oo:w.ownsRow w.heap.size 29 1 (.slice none 0 0) 0 (([]:List (Value × List Int)).map (·.1)):=World.ownsRow_nil _ _ _ _
 have fam:FamT w w.heap.size []:=Z4x _ _
 unfold tpV at HK ⊢
 refine Z01 72 Try.func117 rfl Try.ntmps117 (Nat.le_of_ble_eq_true rfl) ?_
 intro fa F
 refine wp_seq_k fun K1 hK1=>?_
 refine wp_region_lit ?_
 refine Z00 F rfl (by decide) rfl (Z0z rfl (F.at rfl)) ?_;clear F fa;intro fa w1 F hw
 obtain ⟨n3,hn⟩:∃ n,n = w.heap.size:=⟨_,rfl⟩
 rw [← hn] at F
 have s3:w.heap.size ≤ n3:=Nat.le_of_eq hn.symm
 have l3_E:w.heap.size ≤ n3:=by rw [hn];exact E.size
 have o3_oo:=Lib.hid (Zo oo hn)
 replace oo:=Zc hw oo
 replace fam:=ZL fam fun _ _ _ h=>Zc hw h
 replace E:=Z2 E hw
 have q3:=Zr hw hn
 clear hw hn
 refine F.vl (Z8 rfl (ev_c fa _)) ?_;clear F fa;intro fa F
 refine F.vl (Z8 rfl (ev_c fa _)) ?_;clear F fa;intro fa F
 refine F.vl (Z8 rfl (ev_c fa _)) ?_;clear F fa;intro fa F
 refine wpList_nil ?_
 refine hK1 _ _ ?_
 clear hK1
 refine wp_seq_k fun K2 hK2=>?_
 refine wp_region_lit ?_
 refine F.vl (Zt rfl (F.at rfl) Try.underlying28 rfl (by kernel_rfl) q3) ?_;clear F fa;intro fa F
 refine ZX F rfl (by decide) rfl (ZG rfl rfl Try.call90 (mpS (F.at rfl) (mpS (ev_c fa _) (mpS (ev_c fa _) (mpS (ev_c fa _) mp0))))) (HK.out _ E) fun e w2 hR=>?_
 obtain ⟨rfl,e9⟩:=hR
 refine ⟨_,rfl,?_⟩;clear F fa;intro fa F
 replace oo:=Zq oo (e9) (by simp)
 replace fam:=ZL fam fun _ _ _ h=>Zq h (e9) (by simp)
 replace q3:=(e9).keep0 q3
 replace E:=Z4 E (e9)
 clear e9
 refine F.mv ?_;clear F fa;intro fa F
 refine F.vl (Zm rfl (F.at rfl) (get0)) ?_;clear F fa;intro fa F
 refine F.vl (Zm rfl (F.at rfl) (getS (get0))) ?_;clear F fa;intro fa F
 refine F.vl (Zm rfl (F.at rfl) (getS (getS (get0)))) ?_;clear F fa;intro fa F
 refine Z00 F rfl (by decide) rfl (ZB rfl Try.zeroValue100) ?_;clear F fa;intro fa w3 F hw
 obtain ⟨n9,hn⟩:∃ n,n = w2.heap.size:=⟨_,rfl⟩
 rw [← hn] at F
 have s9:w2.heap.size ≤ n9:=Nat.le_of_eq hn.symm
 have l9_E:w.heap.size ≤ n9:=by rw [hn];exact E.size
 have m9_3:n3 < n9:=by rw [hn];exact Z7 q3
 have o9_oo:=Lib.hid (Zo oo hn)
 replace oo:=Zc hw oo
 replace fam:=ZL fam fun _ _ _ h=>Zc hw h
 replace q3:=Z1 hw q3
 replace E:=Z2 E hw
 have q9:=Zr hw hn
 clear hw hn
 refine Z00 F rfl (by decide) rfl (ZB rfl Try.zeroValue105) ?_;clear F fa;intro fa w4 F hw
 obtain ⟨n10,hn⟩:∃ n,n = w3.heap.size:=⟨_,rfl⟩
 rw [← hn] at F
 have s10:w3.heap.size ≤ n10:=Nat.le_of_eq hn.symm
 have l10_E:w.heap.size ≤ n10:=by rw [hn];exact E.size
 have m10_3:n3 < n10:=by rw [hn];exact Z7 q3
 have m10_9:n9 < n10:=by rw [hn];exact Z7 q9
 have o10_oo:=Lib.hid (Zo oo hn)
 replace oo:=Zc hw oo
 replace fam:=ZL fam fun _ _ _ h=>Zc hw h
 replace q3:=Z1 hw q3
 replace q9:=Z1 hw q9
 replace E:=Z2 E hw
 have q10:=Zr hw hn
 clear hw hn
 refine Z1L rfl rfl (Zg rfl (F.at rfl) (F.at rfl) (by kernel_rfl) (by first | (simp [Value.oneCell'];done) | (simp [Value.oneCell',Z0K,Z0B,Z0L];done)) q9 rfl) ?_;intro w5 hw
 replace oo:=Zu hw oo (Z6 oo q9 (by decide))
 replace fam:=ZL fam fun _ _ _ h=>Zu hw h (Z6 h q9 (by decide))
 replace q3:=Z5 hw q3 (by omega)
 replace q9:=Zz hw q9 rfl
 replace q10:=Z5 hw q10 (by omega)
 replace E:=Za E hw (fun h=>by first | exact absurd h (by omega) | simp)
 clear hw
 refine Z1L rfl rfl (Zg rfl (F.at rfl) (F.at rfl) (by rw [Zj];kernel_rfl) (by rw [← ZI];exact all_oneCell_toArray (Z05 _)) q10 (by show Try.zeroCells105.size = _;rw [Try.zeroCells105_size,Zj])) ?_;intro w6 hw
 replace oo:=Zu hw oo (Z6 oo q10 (by decide))
 replace fam:=ZL fam fun _ _ _ h=>Zu hw h (Z6 h q10 (by decide))
 replace q3:=Z5 hw q3 (by omega)
 replace q9:=Z5 hw q9 (by omega)
 replace q10:=Zz hw q10 (by show Try.zeroCells105.size = _;rw [Try.zeroCells105_size,Zj])
 replace E:=Za E hw (fun h=>by first | exact absurd h (by omega) | simp)
 clear hw
 refine F.as ?_;clear F fa;intro fa F
 refine wpList_nil ?_
 refine hK2 _ _ ?_
 clear hK2
 refine wp_seq_k fun K3 hK3=>?_
 refine wp_seq_k fun K4 hK4=>?_
 refine wp_region_lit ?_
 refine F.mv ?_;clear F fa;intro fa F
 refine F.vl (Z2l (b:=false) rfl (F.at rfl) (ev_c fa _) (by decide)) ?_;clear F fa;intro fa F
 refine wpList_nil ?_
 refine hK4 _ _ ?_
 clear hK4
 refine cd_F F rfl ?_
 refine wp_skip ?_
 refine hK3 _ _ ?_
 clear hK3
 refine wp_seq_k fun K5 hK5=>?_
 refine wp_region_lit ?_
 refine F.vl (Z8 rfl (ev_c fa _)) ?_;clear F fa;intro fa F
 refine wpList_nil ?_
 refine hK5 _ _ ?_
 clear hK5
 refine wp_seq_k fun K6 hK6=>?_
 refine wp_region_lit ?_
 refine F.vl (Z8 rfl (ev_c fa _)) ?_;clear F fa;intro fa F
 refine wpList_nil ?_
 refine hK6 _ _ ?_
 clear hK6
 refine wp_seq_k fun K7 hK7=>?_
 refine wp_seq_k fun K8 hK8=>?_
 refine wp_region_lit ?_
 refine F.vl (Z9 rfl (F.at rfl) Try.underlying100 rfl (n:=0) (sz:=11) rfl (by kernel_rfl) (by decide)) ?_;clear F fa;intro fa F
 refine F.vl (Z9 rfl (F.at rfl) Try.underlying28 rfl (n:=0) (sz:=1) rfl (by kernel_rfl) (by decide)) ?_;clear F fa;intro fa F
 refine F.vl (Zh rfl (F.at rfl) Try.underlying3 rfl ((Z0 q9 0).trans (get0))) ?_;clear F fa;intro fa F
 refine F.vl (Zi rfl (ev_c fa _)) ?_;clear F fa;intro fa F
 refine wpList_nil ?_
 refine hK8 _ _ ?_
 clear hK8
 refine wp_block ?_
 have F0:=F.sub (.c 1 rfl (.c 2 rfl (.c 9 rfl (.c 10 rfl (.c 13 rfl (.c 29 rfl .n))))))
 refine Z0U F0 (t.S.toNat) (fun i Lv W=>∃ va:Option Addr,∃ vc:Nat,∃ O:List (Value × List Int),Lv = [(12,.slice va O.length vc),(30,.int .i64 ((i:Nat):Int))] ∧ Ext [] w W ∧ W.heap[n3]? = some (.cells #[.int .i64 t.S,.int .i64 t.A,.int .i64 t.T,.int .i64 t.bl,.int .i64 t.bm,.int .i64 t.pl,.int .i64 t.pm,.int .i64 t.sl,.slice ga t.gr.length gc,.slice ra t.rd.length rc,.slice la t.lk.length lc] 28 (0,0)) ∧ W.heap[n9]? = some (.cells #[.int .i64 t.S,.int .i64 t.A,.int .i64 t.T,.int .i64 t.bl,.int .i64 t.bm,.int .i64 t.pl,.int .i64 t.pm,.int .i64 t.sl,.slice ga t.gr.length gc,.slice ra t.rd.length rc,.slice la t.lk.length lc] 100 (0,0)) ∧ W.heap[n10]? = some (.cells (ZD (bdV t 0)) 105 (0,0)) ∧ W.ownsRow w.heap.size 29 1 (.slice va O.length vc) O.length (O.map (·.1)) ∧ FamT W w.heap.size O ∧ O.map (·.2) = (List.range i).map (fun s=>rowL t pe s t.A.toNat)) ⟨_,⟨none,0,[],rfl,E,q3,q9,q10,oo,fam,rfl⟩,F.sub (.c 12 rfl (.c 30 rfl (.c 1 rfl (.c 2 rfl (.c 9 rfl (.c 10 rfl (.c 13 rfl (.c 29 rfl .n))))))))⟩ ?_
 clear F F0
 clear E q3 q9 q10
 clear oo
 clear fam
 rintro i _ fa w7 hi1 ⟨va,vc,O,rfl,E,q3,q9,q10,oo,fam,hO⟩ F
 have hOl:O.length = i:=by have:=congrArg List.length hO;simpa using this
 refine wp_seq_k fun K9 hK9=>?_
 refine wp_region_lit ?_
 refine F.vl (Z1d rfl (F.at rfl) (F.at rfl)) ?_;clear F fa;intro fa F
 refine wpList_nil ?_
 refine hK9 _ _ ?_
 clear hK9
 refine wp_seq_k fun K10 hK10=>?_
 refine Z0J F rfl (fun hc31=>?_) (fun hc31=>?_)
 ·skip
  refine wp_skip ?_
  refine hK10 _ _ ?_
  clear hK10
  refine wp_seq_k fun K11 hK11=>?_
  refine wp_block ?_
  refine wp_seq_k fun K12 hK12=>?_
  refine wp_region_lit ?_
  refine F.mv ?_;clear F fa;intro fa F
  refine F.as ?_;clear F fa;intro fa F
  refine wpList_nil ?_
  refine hK12 _ _ ?_
  clear hK12
  refine wp_seq_k fun K13 hK13=>?_
  refine wp_region_lit ?_
  refine F.vl (Z8 rfl (ev_c fa _)) ?_;clear F fa;intro fa F
  refine wpList_nil ?_
  have hflt:=Lib.hid (Z5R fam)
  obtain ⟨B1,hB1⟩:∃ B1,B1 = w7.heap.size:=⟨_,rfl⟩
  rw [← hB1] at hflt
  have hB1w:w.heap.size ≤ B1:=by rw [hB1];exact E.size
  have hB1i:w7.heap.size ≤ B1:=by rw [hB1];exact Nat.le_refl _
  have ro:w7.ownsRow B1 3 1 (.slice none 0 0) 0 (ivs []):=World.ownsRow_nil _ _ _ _
  have EB:Ext [] w7 w7:=Ext.refl _ _
  refine hK13 _ _ ?_
  clear hK13
  refine wp_seq_k fun K14 hK14=>?_
  refine wp_seq_k fun K15 hK15=>?_
  refine wp_region_lit ?_
  refine F.vl (Z9 rfl (F.at rfl) Try.underlying100 rfl (n:=0) (sz:=11) rfl (by kernel_rfl) (by decide)) ?_;clear F fa;intro fa F
  refine F.vl (Z9 rfl (F.at rfl) Try.underlying28 rfl (n:=1) (sz:=1) rfl (by kernel_rfl) (by decide)) ?_;clear F fa;intro fa F
  refine F.vl (Zh rfl (F.at rfl) Try.underlying3 rfl ((Z0 q9 1).trans (getS (get0)))) ?_;clear F fa;intro fa F
  refine F.vl (Zi rfl (ev_c fa _)) ?_;clear F fa;intro fa F
  refine wpList_nil ?_
  refine hK15 _ _ ?_
  clear hK15
  refine wp_block ?_
  have F0:=F.sub (.c 1 rfl (.c 2 rfl (.c 9 rfl (.c 10 rfl (.c 12 rfl (.c 13 rfl (.c 14 rfl (.c 29 rfl (.c 30 rfl (.c 35 rfl .n))))))))))
  refine Z0U F0 (t.A.toNat) (fun j Lv W=>∃ va2:Option Addr,∃ vc2:Nat,∃ R:List Int,Lv = [(15,.slice va2 R.length vc2),(36,.int .i64 ((j:Nat):Int))] ∧ Ext [] w W ∧ Ext [] w7 W ∧ W.heap[n3]? = some (.cells #[.int .i64 t.S,.int .i64 t.A,.int .i64 t.T,.int .i64 t.bl,.int .i64 t.bm,.int .i64 t.pl,.int .i64 t.pm,.int .i64 t.sl,.slice ga t.gr.length gc,.slice ra t.rd.length rc,.slice la t.lk.length lc] 28 (0,0)) ∧ W.heap[n9]? = some (.cells #[.int .i64 t.S,.int .i64 t.A,.int .i64 t.T,.int .i64 t.bl,.int .i64 t.bm,.int .i64 t.pl,.int .i64 t.pm,.int .i64 t.sl,.slice ga t.gr.length gc,.slice ra t.rd.length rc,.slice la t.lk.length lc] 100 (0,0)) ∧ W.heap[n10]? = some (.cells (ZD (bdV t 0)) 105 (0,0)) ∧ W.ownsRow w.heap.size 29 1 (.slice va O.length vc) O.length (O.map (·.1)) ∧ FamT W w.heap.size O ∧ W.ownsRow B1 3 1 (.slice va2 R.length vc2) R.length (ivs R) ∧ R = rowL t pe i j ∧ R.length = j) ⟨_,⟨none,0,[],rfl,E,EB,q3,q9,q10,oo,fam,ro,rfl,rfl⟩,F.sub (.c 15 rfl (.c 36 rfl (.c 1 rfl (.c 2 rfl (.c 9 rfl (.c 10 rfl (.c 12 rfl (.c 13 rfl (.c 14 rfl (.c 29 rfl (.c 30 rfl (.c 35 rfl .n))))))))))))⟩ ?_
  clear F F0
  clear E EB q3 q9 q10 oo fam
  clear ro
  rintro j _ fa w8 hi2 ⟨va2,vc2,R,rfl,E,EB,q3,q9,q10,oo,fam,ro,hR,hRl⟩ F
  refine wp_seq_k fun K16 hK16=>?_
  refine wp_region_lit ?_
  refine F.vl (Z1d rfl (F.at rfl) (F.at rfl)) ?_;clear F fa;intro fa F
  refine wpList_nil ?_
  refine hK16 _ _ ?_
  clear hK16
  refine wp_seq_k fun K17 hK17=>?_
  refine Z0J F rfl (fun hc37=>?_) (fun hc37=>?_)
  ·skip
   refine wp_skip ?_
   refine hK17 _ _ ?_
   clear hK17
   refine wp_seq_k fun K18 hK18=>?_
   refine wp_block ?_
   refine wp_seq_k fun K19 hK19=>?_
   refine wp_region_lit ?_
   refine F.mv ?_;clear F fa;intro fa F
   refine F.as ?_;clear F fa;intro fa F
   refine wpList_nil ?_
   refine hK19 _ _ ?_
   clear hK19
   refine Z0P (Ext [] w8) (some 9) follows fun w9 hh eh=>?_
   have q3_:=q3
   replace q3:=Zn hh q3
   have q9_:=q9
   replace q9:=Zn hh q9
   have q10_:=q10
   replace q10:=Zn hh q10
   have E_:=E
   have zEw9:=E.size
   replace E:=Z4 E eh
   have EB_:=EB
   have zEBw9:=EB.size
   replace EB:=Z4 EB eh
   replace oo:=ZW hh oo
   replace fam:=ZL fam fun _ _ _ h=>ZW hh h
   replace ro:=ZW hh ro
   have eT:=eh
   clear hh eh
   refine F.x (i:=0) rfl (fun w'=>Zi rfl (F.at rfl)) (fun _=>eT) ?_;clear F fa;intro fa F
   refine F.x (i:=1) rfl (fun w'=>Zi rfl (F.at rfl)) (fun _=>eT) ?_;clear F fa;intro fa F
   refine F.xr2 (i:=2) [6,7,8,9] rfl (fun w' hS=>Zt rfl (F.at rfl) Try.underlying105 rfl (by rw [Zj];kernel_rfl) (hS.keep q10_ (by simp))) (fun _=>eT) ?_;clear F fa;intro fa F
   refine F.x (i:=3) rfl (fun w'=>Zi rfl (F.at rfl)) (fun _=>eT) ?_;clear F fa;intro fa F
   refine F.x (i:=4) rfl (fun w'=>Zi rfl (F.at rfl)) (fun _=>eT) ?_;clear F fa;intro fa F
   refine Zv (i:=5) (by kernel_rfl) (Z07 F rfl rfl (by decide) rfl (ZG rfl rfl Try.call92 (mpS (F.at rfl) (mpS (F.at rfl) mp0))) (Z7q i j (by omega) (by omega) _) fun e w' hR=>?_)
   obtain ⟨rfl,rfl⟩:=hR
   refine ⟨_,rfl,?_⟩;clear F fa;intro fa F
   refine ⟨fun _=>eT,?_⟩
   refine Zv (i:=6) (by kernel_rfl) (Z07 F rfl rfl (by decide) rfl (ZG rfl rfl Try.call91 (mpS (F.at rfl) (mpS (ev_c fa _) (mpS (F.at rfl) mp0)))) (Z8z hL i j (by omega) (by omega) _) fun e w10 hR=>?_)
   obtain ⟨rfl,e9⟩:=hR
   refine ⟨_,rfl,?_⟩;clear F fa;intro fa F
   replace oo:=Zq oo (e9) (by simp)
   replace fam:=ZL fam fun _ _ _ h=>Zq h (e9) (by simp)
   replace ro:=Zq ro (e9) (by simp)
   replace q3:=(e9).keep0 q3
   replace q9:=(e9).keep0 q9
   replace q10:=(e9).keep0 q10
   replace E:=Z4 E (e9)
   replace EB:=Z4 EB (e9)
   replace eT:=Z4 eT (e9)
   clear e9
   refine ⟨fun _=>eT,?_⟩
   refine Zv (i:=7) (by kernel_rfl) (Z07 F rfl rfl (by decide) rfl (Z8s rfl (F.at rfl) Hce.out (mpS (F.at rfl) mp0)) (Hfe.out _ _ _) fun e w11 hR=>?_)
   obtain ⟨rfl,e9⟩:=hR
   refine ⟨_,rfl,?_⟩;clear F fa;intro fa F
   replace oo:=Zq oo (e9) (by simp)
   replace fam:=ZL fam fun _ _ _ h=>Zq h (e9) (by simp)
   replace ro:=Zq ro (e9) (by simp)
   replace q3:=(e9).keep0 q3
   replace q9:=(e9).keep0 q9
   replace q10:=(e9).keep0 q10
   replace E:=Z4 E (e9)
   replace EB:=Z4 EB (e9)
   replace eT:=Z4 eT (e9)
   clear e9
   refine ⟨fun _=>eT,?_⟩
   refine Zv (i:=8) (by kernel_rfl) (Z0w F rfl rfl (by decide) rfl (Z09 rfl (prS (F.at rfl) pr0) Try.underlying29 (size:=1) (by kernel_rfl) (by decide) (by decide) Try.zeroValue3 (cells:=#[.int .i64 (pe (mlo t i j) (mhi t i j))]) (by kernel_rfl)) ?_);clear F fa;intro fa w12 F hw
   obtain ⟨n47,hn⟩:∃ n,n = w11.heap.size:=⟨_,rfl⟩
   rw [← hn] at F
   have s47:w11.heap.size ≤ n47:=Nat.le_of_eq hn.symm
   have l47_E:w.heap.size ≤ n47:=by rw [hn];exact E.size
   have l47_EB:w7.heap.size ≤ n47:=by rw [hn];exact EB.size
   have lT47:w8.heap.size ≤ n47:=by rw [hn];exact eT.size
   have m47_3:n3 < n47:=by rw [hn];exact Z7 q3
   have m47_9:n9 < n47:=by rw [hn];exact Z7 q9
   have m47_10:n10 < n47:=by rw [hn];exact Z7 q10
   have o47_oo:=Lib.hid (Zo oo hn)
   have o47_ro:=Lib.hid (Zo ro hn)
   replace oo:=Zc hw oo
   replace fam:=ZL fam fun _ _ _ h=>Zc hw h
   replace ro:=Zc hw ro
   replace q3:=Z1 hw q3
   replace q9:=Z1 hw q9
   replace q10:=Z1 hw q10
   replace E:=Z2 E hw
   replace EB:=Z2 EB hw
   replace eT:=Z2 eT hw
   have q47:=Zw hw hn
   clear hw hn
   refine ⟨fun _=>eT,?_⟩
   have hEs:=EB.size
   refine Zv (i:=9) (by kernel_rfl) (Z0f F rfl rfl (by decide) rfl (Z0T rfl (B1) (e:=3) (size:=1) (bytes:=8) Try.underlying29 (by kernel_rfl) (by decide) (F.at rfl) ro (F.at rfl) q47 rfl (by simp [Value.oneCell']) (by omega) (by omega) (by omega)) ?_);clear F fa;rintro fa v' w13 F ⟨hown',hg⟩
   obtain ⟨va48,vc48,rfl⟩:=Zs hown'
   replace q3:=Zb ro hg q3 (by decide)
   replace q9:=Zb ro hg q9 (by decide)
   replace q10:=Zb ro hg q10 (by decide)
   replace oo:=Zx oo ro hg (by decide)
   replace fam:=Z4r fam hflt.out ro hg
   replace E:=Zd E ro hg (by omega)
   replace EB:=Zd EB ro hg (by omega)
   replace ro:=hown'
   clear hg
   refine ⟨gone (by kernel_rfl),?_⟩
   obtain ⟨P2,hP2e⟩:∃ P2,P2 = R ++ [pe (mlo t i j) (mhi t i j)]:=⟨_,rfl⟩
   have hPl3:R.length + 1 = P2.length:=by rw [hP2e,List.length_append];rfl
   have hRl2:P2.length = j + 1:=by omega
   have hR2:P2 = rowL t pe i (j + 1):=by rw [Z4s,hP2e,hR]
   rw [Z21,← hP2e,hPl3] at ro
   rw [hPl3] at F
   refine F.x (i:=10) rfl (fun w'=>Z8 rfl (F.at rfl)) (gone (by kernel_rfl)) ?_;clear F fa;intro fa F
   refine Z0a (by kernel_rfl) ?_ _
   clear eT q3_ q9_ q10_ E_ EB_
   refine hK18 _ _ ?_
   clear hK18
   refine wp_region_lit ?_
   refine F.vl (Z0F rfl (F.at rfl) (ev_c fa _) (by omega) (by omega)) ?_;clear F fa;intro fa F
   refine F.mv ?_;clear F fa;intro fa F
   refine wpList_nil ?_
   show _ ∧ _
   exact ⟨by omega,_,⟨_,_,_,rfl,E,EB,q3,q9,q10,oo,fam,ro,hR2,hRl2⟩,F.sub (.c 15 rfl (.c 36 rfl (.c 1 rfl (.c 2 rfl (.c 9 rfl (.c 10 rfl (.c 12 rfl (.c 13 rfl (.c 14 rfl (.c 29 rfl (.c 30 rfl (.c 35 rfl .n))))))))))))⟩
  ·skip
   refine wp_exit ?_
   obtain rfl:j = t.A.toNat:=by omega
   refine hK14 _ _ ?_
   clear hK14
   refine wp_region_lit ?_
   refine F.mv ?_;clear F fa;intro fa F
   refine F.mv ?_;clear F fa;intro fa F
   refine Z00 F rfl (by decide) rfl (Z09 rfl (prS (F.at rfl) pr0) Try.underlying50 (size:=1) (by kernel_rfl) (by decide) (by decide) Try.zeroValue29 (cells:=#[.slice va2 R.length vc2]) (by kernel_rfl)) ?_;clear F fa;intro fa w14 F hw
   obtain ⟨n52,hn⟩:∃ n,n = w8.heap.size:=⟨_,rfl⟩
   rw [← hn] at F
   have s52:w8.heap.size ≤ n52:=Nat.le_of_eq hn.symm
   have l52_E:w.heap.size ≤ n52:=by rw [hn];exact E.size
   have l52_EB:w7.heap.size ≤ n52:=by rw [hn];exact EB.size
   have m52_3:n3 < n52:=by rw [hn];exact Z7 q3
   have m52_9:n9 < n52:=by rw [hn];exact Z7 q9
   have m52_10:n10 < n52:=by rw [hn];exact Z7 q10
   have o52_oo:=Lib.hid (Zo oo hn)
   have o52_ro:=Lib.hid (Zo ro hn)
   replace oo:=Zc hw oo
   replace fam:=ZL fam fun _ _ _ h=>Zc hw h
   replace ro:=Zc hw ro
   replace q3:=Z1 hw q3
   replace q9:=Z1 hw q9
   replace q10:=Z1 hw q10
   replace E:=Z2 E hw
   replace EB:=Z2 EB hw
   have q52:=Zw hw hn
   clear hw hn
   have hEs:=E.size
   have fam2:=Z3D (Z3C (b1:=B1) (L:=[(Value.slice va2 R.length vc2,R)]) ⟨fun p hp=>(by obtain rfl:p = (Value.slice va2 R.length vc2,R):=(by simpa using hp);exact ro),List.pairwise_singleton _ _⟩ fam hflt.out hB1w) (M:=O ++ [(Value.slice va2 R.length vc2,R)]) List.perm_append_comm
   clear fam ro EB
   have fam:=fam2
   clear fam2
   refine Z27 F rfl (by decide) rfl (Z0T rfl (w.heap.size) (e:=29) (size:=1) (bytes:=24) Try.underlying50 (by kernel_rfl) (by decide) (F.at rfl) oo (F.at rfl) q52 rfl (by simp [Value.oneCell']) (by omega) (by omega) (by omega)) ?_;clear F fa;rintro fa v' w15 F ⟨hown',hg⟩
   obtain ⟨va53,vc53,rfl⟩:=Zs hown'
   replace q3:=Zb oo hg q3 (by decide)
   replace q9:=Zb oo hg q9 (by decide)
   replace q10:=Zb oo hg q10 (by decide)
   replace fam:=ZL fam fun _ _ _ h=>Zx h oo hg (by decide)
   replace E:=Zd E oo hg (by omega)
   replace oo:=hown'
   clear hg
   obtain ⟨P2,hP2e⟩:∃ P2,P2 = O ++ [(Value.slice va2 R.length vc2,R)]:=⟨_,rfl⟩
   have hPl3:O.length + 1 = P2.length:=by rw [hP2e,List.length_append];rfl
   have hO3:P2.map (·.2) = (List.range (i + 1)).map (fun s=>rowL t pe s t.A.toNat):=by rw [hP2e,List.map_append,hO,List.range_succ,List.map_append,hR];rfl
   rw [show O.map (·.1) ++ [Value.slice va2 R.length vc2] = P2.map (·.1) by rw [hP2e,List.map_append];rfl,hPl3] at oo
   rw [hPl3] at F
   rw [← hP2e] at fam
   refine F.as ?_;clear F fa;intro fa F
   refine wpList_nil ?_
   refine hK11 _ _ ?_
   clear hK11
   refine wp_region_lit ?_
   refine F.vl (Z0F rfl (F.at rfl) (ev_c fa _) (by omega) (by omega)) ?_;clear F fa;intro fa F
   refine F.mv ?_;clear F fa;intro fa F
   refine wpList_nil ?_
   show _ ∧ _
   exact ⟨by omega,_,⟨_,_,_,rfl,E,q3,q9,q10,oo,fam,hO3⟩,F.sub (.c 12 rfl (.c 30 rfl (.c 1 rfl (.c 2 rfl (.c 9 rfl (.c 10 rfl (.c 13 rfl (.c 29 rfl .n))))))))⟩
 ·skip
  refine wp_exit ?_
  obtain rfl:i = t.S.toNat:=by omega
  have HLs:=Lib.hid (Z1J oo rfl)
  have HLr:Hid (∀ p ∈ O,Z4T w7 p.1 p.2):=fun p hp=>Z5K fam hp
  have EL:Ext [] w7 w7:=Ext.refl _ _
  have po':w7.ownsRow w7.heap.size 3 1 (.slice none 0 0) 0 (ivs []):=World.ownsRow_nil _ _ _ _
  obtain ⟨B2,hB2⟩:∃ B2,B2 = w7.heap.size:=⟨_,rfl⟩
  have hB2w:w.heap.size ≤ B2:=by rw [hB2];exact E.size
  have hB2L:w7.heap.size ≤ B2:=by rw [hB2];exact Nat.le_refl _
  rw [← hB2] at po'
  clear oo fam
  refine hK7 _ _ ?_
  clear hK7
  refine wp_seq_k fun K20 hK20=>?_
  refine wp_seq_k fun K21 hK21=>?_
  refine wp_region_lit ?_
  refine F.vl (Z9 rfl (F.at rfl) Try.underlying100 rfl (n:=0) (sz:=11) rfl (by kernel_rfl) (by decide)) ?_;clear F fa;intro fa F
  refine F.vl (Z9 rfl (F.at rfl) Try.underlying28 rfl (n:=2) (sz:=1) rfl (by kernel_rfl) (by decide)) ?_;clear F fa;intro fa F
  refine F.vl (Zh rfl (F.at rfl) Try.underlying3 rfl ((Z0 q9 2).trans (getS (getS (get0))))) ?_;clear F fa;intro fa F
  refine F.vl (Zi rfl (ev_c fa _)) ?_;clear F fa;intro fa F
  refine wpList_nil ?_
  refine hK21 _ _ ?_
  clear hK21
  refine wp_block ?_
  have F0:=F.sub (.c 2 rfl (.c 10 rfl (.c 12 rfl (.c 57 rfl .n))))
  refine Z0U F0 (t.T.toNat) (fun k Lv W=>∃ va3:Option Addr,∃ vc3:Nat,∃ R3:List Int,Lv = [(13,.slice va3 R3.length vc3),(58,.int .i64 ((k:Nat):Int))] ∧ Ext [] w W ∧ Ext [] w7 W ∧ W.heap[n3]? = some (.cells #[.int .i64 t.S,.int .i64 t.A,.int .i64 t.T,.int .i64 t.bl,.int .i64 t.bm,.int .i64 t.pl,.int .i64 t.pm,.int .i64 t.sl,.slice ga t.gr.length gc,.slice ra t.rd.length rc,.slice la t.lk.length lc] 28 (0,0)) ∧ W.heap[n9]? = some (.cells #[.int .i64 t.S,.int .i64 t.A,.int .i64 t.T,.int .i64 t.bl,.int .i64 t.bm,.int .i64 t.pl,.int .i64 t.pm,.int .i64 t.sl,.slice ga t.gr.length gc,.slice ra t.rd.length rc,.slice la t.lk.length lc] 100 (0,0)) ∧ W.heap[n10]? = some (.cells (ZD (bdV t 0)) 105 (0,0)) ∧ W.ownsRow B2 3 1 (.slice va3 R3.length vc3) R3.length (ivs R3) ∧ R3 = (List.range k).map (fun i=>po (plo t (i:Nat)) (phi t (i:Nat))) ∧ R3.length = k) ⟨_,⟨none,0,[],rfl,E,EL,q3,q9,q10,po',rfl,rfl⟩,F.sub (.c 13 rfl (.c 58 rfl (.c 2 rfl (.c 10 rfl (.c 12 rfl (.c 57 rfl .n))))))⟩ ?_
  clear F F0
  clear E EL q3 q9 q10
  clear po'
  rintro k _ fa w16 hi3 ⟨va3,vc3,R3,rfl,E,EL,q3,q9,q10,po',hR3,hRl3⟩ F
  refine wp_seq_k fun K22 hK22=>?_
  refine wp_region_lit ?_
  refine F.vl (Z1d rfl (F.at rfl) (F.at rfl)) ?_;clear F fa;intro fa F
  refine wpList_nil ?_
  refine hK22 _ _ ?_
  clear hK22
  refine wp_seq_k fun K23 hK23=>?_
  refine Z0J F rfl (fun hc59=>?_) (fun hc59=>?_)
  ·skip
   refine wp_skip ?_
   refine hK23 _ _ ?_
   clear hK23
   refine wp_seq_k fun K24 hK24=>?_
   refine wp_block ?_
   refine wp_seq_k fun K25 hK25=>?_
   refine wp_region_lit ?_
   refine F.mv ?_;clear F fa;intro fa F
   refine F.as ?_;clear F fa;intro fa F
   refine wpList_nil ?_
   refine hK25 _ _ ?_
   clear hK25
   refine wp_region_lit ?_
   refine F.mv ?_;clear F fa;intro fa F
   refine F.mv ?_;clear F fa;intro fa F
   refine F.vl (Zt rfl (F.at rfl) Try.underlying105 rfl (by rw [Zj];kernel_rfl) q10) ?_;clear F fa;intro fa F
   refine F.mv ?_;clear F fa;intro fa F
   refine ZX F rfl (by decide) rfl (ZG rfl rfl Try.call97 (mpS (F.at rfl) (mpS (F.at rfl) mp0))) (Z8Z hL k (by omega) _) fun e w17 hR=>?_
   obtain ⟨rfl,e9⟩:=hR
   refine ⟨_,rfl,?_⟩;clear F fa;intro fa F
   replace po':=Zq po' (e9) (by simp)
   replace q3:=(e9).keep0 q3
   replace q9:=(e9).keep0 q9
   replace q10:=(e9).keep0 q10
   replace E:=Z4 E (e9)
   replace EL:=Z4 EL (e9)
   clear e9
   refine ZX F rfl (by decide) rfl (Z8s rfl (F.at rfl) Hco.out (mpS (F.at rfl) mp0)) (Hfo.out _ _ _) fun e w18 hR=>?_
   obtain ⟨rfl,e9⟩:=hR
   refine ⟨_,rfl,?_⟩;clear F fa;intro fa F
   replace po':=Zq po' (e9) (by simp)
   replace q3:=(e9).keep0 q3
   replace q9:=(e9).keep0 q9
   replace q10:=(e9).keep0 q10
   replace E:=Z4 E (e9)
   replace EL:=Z4 EL (e9)
   clear e9
   refine Z00 F rfl (by decide) rfl (Z09 rfl (prS (F.at rfl) pr0) Try.underlying29 (size:=1) (by kernel_rfl) (by decide) (by decide) Try.zeroValue3 (cells:=#[.int .i64 (po (plo t k) (phi t k))]) (by kernel_rfl)) ?_;clear F fa;intro fa w19 F hw
   obtain ⟨n67,hn⟩:∃ n,n = w18.heap.size:=⟨_,rfl⟩
   rw [← hn] at F
   have s67:w18.heap.size ≤ n67:=Nat.le_of_eq hn.symm
   have l67_E:w.heap.size ≤ n67:=by rw [hn];exact E.size
   have l67_EL:w7.heap.size ≤ n67:=by rw [hn];exact EL.size
   have m67_3:n3 < n67:=by rw [hn];exact Z7 q3
   have m67_9:n9 < n67:=by rw [hn];exact Z7 q9
   have m67_10:n10 < n67:=by rw [hn];exact Z7 q10
   have o67_po':=Lib.hid (Zo po' hn)
   replace po':=Zc hw po'
   replace q3:=Z1 hw q3
   replace q9:=Z1 hw q9
   replace q10:=Z1 hw q10
   replace E:=Z2 E hw
   replace EL:=Z2 EL hw
   have q67:=Zw hw hn
   clear hw hn
   have hEs:=EL.size
   refine Z27 F rfl (by decide) rfl (Z0T rfl (B2) (e:=3) (size:=1) (bytes:=8) Try.underlying29 (by kernel_rfl) (by decide) (F.at rfl) po' (F.at rfl) q67 rfl (by simp [Value.oneCell']) (by omega) (by omega) (by omega)) ?_;clear F fa;rintro fa v' w20 F ⟨hown',hg⟩
   obtain ⟨va68,vc68,rfl⟩:=Zs hown'
   replace q3:=Zb po' hg q3 (by decide)
   replace q9:=Zb po' hg q9 (by decide)
   replace q10:=Zb po' hg q10 (by decide)
   replace E:=Zd E po' hg (by omega)
   replace EL:=Zd EL po' hg (by omega)
   replace po':=hown'
   clear hg
   obtain ⟨P2,hP2e⟩:∃ P2,P2 = R3 ++ [po (plo t k) (phi t k)]:=⟨_,rfl⟩
   have hPl3:R3.length + 1 = P2.length:=by rw [hP2e,List.length_append];rfl
   have hRl4:P2.length = k + 1:=by omega
   have hR4:P2 = (List.range (k + 1)).map (fun i=>po (plo t (i:Nat)) (phi t (i:Nat))):=by rw [hP2e,hR3,List.range_succ,List.map_append];rfl
   rw [Z21,← hP2e,hPl3] at po'
   rw [hPl3] at F
   refine F.as ?_;clear F fa;intro fa F
   refine wpList_nil ?_
   refine hK24 _ _ ?_
   clear hK24
   refine wp_region_lit ?_
   refine F.vl (Z0F rfl (F.at rfl) (ev_c fa _) (by omega) (by omega)) ?_;clear F fa;intro fa F
   refine F.mv ?_;clear F fa;intro fa F
   refine wpList_nil ?_
   show _ ∧ _
   exact ⟨by omega,_,⟨_,_,_,rfl,E,EL,q3,q9,q10,po',hR4,hRl4⟩,F.sub (.c 13 rfl (.c 58 rfl (.c 2 rfl (.c 10 rfl (.c 12 rfl (.c 57 rfl .n))))))⟩
  ·skip
   refine wp_exit ?_
   obtain rfl:k = t.T.toNat:=by omega
   refine hK20 _ _ ?_
   clear hK20
   refine wp_seq_k fun K26 hK26=>?_
   refine wp_region_lit ?_
   refine F.mv ?_;clear F fa;intro fa F
   refine F.mv ?_;clear F fa;intro fa F
   refine F.as ?_;clear F fa;intro fa F
   refine F.as ?_;clear F fa;intro fa F
   refine F.vl (Z8 rfl (ev_c fa _)) ?_;clear F fa;intro fa F
   refine wpList_nil ?_
   refine hK26 _ _ ?_
   clear hK26
   refine wp_ret ?_
   (try simp only [Exit.inBlock,Exit.then])
   refine rt_v F (rs_3 F rfl rfl rfl rfl) ?_
   exact ⟨O,R3,va,va3,vc,vc3,rfl,hO,hR3,Z1X HLs.out EL,fun p hp=>(HLr.out p hp).ext EL,Z13 (row:=Z0Q) (by rw [← Z3I];exact po') (fun _=>rfl),E⟩
def fstI (a _b:Int):Int:=a
def sndI (_a b:Int):Int:=b
theorem Z6u (a b:Int) (w:World):Calls Try.prog 118 #[.agg #[.int .i64 a,.int .i64 b]] w fun e w'=>e = .returned (.int .i64 (fstI a b)) ∧ Ext [] w w':=by
 have E:Ext [] w w:=Ext.refl _ _
 refine Z01 5 Try.func118 rfl Try.ntmps118 (Nat.le_of_ble_eq_true rfl) ?_
 intro fa F
 refine wp_seq_k fun K1 hK1=>?_
 refine wp_region_lit ?_
 refine Z00 F rfl (by decide) rfl (Z0z rfl (F.at rfl)) ?_;clear F fa;intro fa w1 F hw
 obtain ⟨n1,hn⟩:∃ n,n = w.heap.size:=⟨_,rfl⟩
 rw [← hn] at F
 have s1:w.heap.size ≤ n1:=Nat.le_of_eq hn.symm
 have l1_E:w.heap.size ≤ n1:=by rw [hn];exact E.size
 replace E:=Z2 E hw
 have q1:=Zr hw hn
 clear hw hn
 refine F.vl (Z8 rfl (ev_c fa _)) ?_;clear F fa;intro fa F
 refine wpList_nil ?_
 refine hK1 _ _ ?_
 clear hK1
 refine wp_seq_k fun K2 hK2=>?_
 refine wp_region_lit ?_
 refine F.vl (Z9 rfl (F.at rfl) Try.underlying23 rfl (n:=0) (sz:=1) rfl (by kernel_rfl) (by decide)) ?_;clear F fa;intro fa F
 refine F.vl (Zh rfl (F.at rfl) Try.underlying3 rfl ((Z0 q1 0).trans (get0))) ?_;clear F fa;intro fa F
 refine F.as ?_;clear F fa;intro fa F
 refine wpList_nil ?_
 refine hK2 _ _ ?_
 clear hK2
 refine wp_ret ?_
 (try simp only [Exit.inBlock,Exit.then])
 refine rt_v F (rs_1 F rfl rfl) ?_
 exact ⟨rfl,E⟩
theorem Z7u (a b:Int) (w:World):Calls Try.prog 119 #[.agg #[.int .i64 a,.int .i64 b]] w fun e w'=>e = .returned (.int .i64 (sndI a b)) ∧ Ext [] w w':=by
 have E:Ext [] w w:=Ext.refl _ _
 refine Z01 5 Try.func119 rfl Try.ntmps119 (Nat.le_of_ble_eq_true rfl) ?_
 intro fa F
 refine wp_seq_k fun K1 hK1=>?_
 refine wp_region_lit ?_
 refine Z00 F rfl (by decide) rfl (Z0z rfl (F.at rfl)) ?_;clear F fa;intro fa w1 F hw
 obtain ⟨n1,hn⟩:∃ n,n = w.heap.size:=⟨_,rfl⟩
 rw [← hn] at F
 have s1:w.heap.size ≤ n1:=Nat.le_of_eq hn.symm
 have l1_E:w.heap.size ≤ n1:=by rw [hn];exact E.size
 replace E:=Z2 E hw
 have q1:=Zr hw hn
 clear hw hn
 refine F.vl (Z8 rfl (ev_c fa _)) ?_;clear F fa;intro fa F
 refine wpList_nil ?_
 refine hK1 _ _ ?_
 clear hK1
 refine wp_seq_k fun K2 hK2=>?_
 refine wp_region_lit ?_
 refine F.vl (Z9 rfl (F.at rfl) Try.underlying23 rfl (n:=1) (sz:=1) rfl (by kernel_rfl) (by decide)) ?_;clear F fa;intro fa F
 refine F.vl (Zh rfl (F.at rfl) Try.underlying3 rfl ((Z0 q1 1).trans (getS (get0)))) ?_;clear F fa;intro fa F
 refine F.as ?_;clear F fa;intro fa F
 refine wpList_nil ?_
 refine hK2 _ _ ?_
 clear hK2
 refine wp_ret ?_
 (try simp only [Exit.inBlock,Exit.then])
 refine rt_v F (rs_1 F rfl rfl) ?_
 exact ⟨rfl,E⟩
theorem Z7D {t:Tp} (hL:t.Live) (ga ra la:Option Addr) (gc rc lc:Nat) (w:World) (ht:IsTp w (.slice ga t.gr.length gc) (.slice ra t.rd.length rc) (.slice la t.lk.length lc) t) :
  Calls Try.prog 65 #[tpV t (.slice ga t.gr.length gc) (.slice ra t.rd.length rc) (.slice la t.lk.length lc)] w (Z5D t fstI sndI w):=by
 have E:Ext [] w w:=Ext.refl _ _
 have HT:=Lib.hid ht
 clear ht
 have HK:=Lib.hid (fun W (h:Ext [] w W)=>Z7f hL 118 119 fstI sndI Try.call118 Try.call119 Z6u Z7u ga ra la gc rc lc W (HT.out.ext h (by simp)))
 unfold tpV at HK ⊢
 refine Z01 10 Try.func65 rfl Try.ntmps65 (Nat.le_of_ble_eq_true rfl) ?_
 intro fa F
 refine wp_seq_k fun K1 hK1=>?_
 refine wp_region_lit ?_
 refine Z00 F rfl (by decide) rfl (Z0z rfl (F.at rfl)) ?_;clear F fa;intro fa w1 F hw
 obtain ⟨n1,hn⟩:∃ n,n = w.heap.size:=⟨_,rfl⟩
 rw [← hn] at F
 have s1:w.heap.size ≤ n1:=Nat.le_of_eq hn.symm
 have l1_E:w.heap.size ≤ n1:=by rw [hn];exact E.size
 replace E:=Z2 E hw
 have q1:=Zr hw hn
 clear hw hn
 refine F.vl (Z8 rfl (ev_c fa _)) ?_;clear F fa;intro fa F
 refine F.vl (Z8 rfl (ev_c fa _)) ?_;clear F fa;intro fa F
 refine F.vl (Z8 rfl (ev_c fa _)) ?_;clear F fa;intro fa F
 refine wpList_nil ?_
 refine hK1 _ _ ?_
 clear hK1
 refine wp_seq_k fun K2 hK2=>?_
 refine wp_region_lit ?_
 refine F.vl (Zt rfl (F.at rfl) Try.underlying28 rfl (by kernel_rfl) q1) ?_;clear F fa;intro fa F
 refine ZX F rfl (by decide) rfl (ZG rfl rfl Try.call117 (mpS (F.at rfl) (mpS rfl (mpS rfl mp0)))) (HK.out _ E) fun e w2 hR=>?_
 obtain ⟨L,P,a,pa,c,pc,rfl,h1,h2,h3,h4,h5,eX⟩:=hR
 refine ⟨_,rfl,?_⟩;clear F fa;intro fa F
 replace q1:=(eX).keep0 q1
 replace E:=Z4 E (eX)
 have EX:Ext [] w2 w2:=Ext.refl _ _
 replace h3:=Lib.hid h3
 replace h4:=Lib.hid h4
 replace h5:=Lib.hid h5
 refine F.vl (Zm rfl (F.at rfl) (get0)) ?_;clear F fa;intro fa F
 refine F.vl (Zm rfl (F.at rfl) (getS (get0))) ?_;clear F fa;intro fa F
 refine F.vl (Zm rfl (F.at rfl) (getS (getS (get0)))) ?_;clear F fa;intro fa F
 refine F.as ?_;clear F fa;intro fa F
 refine F.as ?_;clear F fa;intro fa F
 refine F.as ?_;clear F fa;intro fa F
 refine wpList_nil ?_
 refine hK2 _ _ ?_
 clear hK2
 refine wp_ret ?_
 (try simp only [Exit.inBlock,Exit.then])
 refine rt_v F (rs_3 F rfl rfl rfl rfl) ?_
 exact ⟨L,P,a,pa,c,pc,rfl,h1,h2,Z1X h3.out EX,fun p hp=>(h4.out p hp).ext EX,h5.out.ext EX (by simp),E⟩
theorem Z9d {t:Tp} (hL:t.Live) (ga ra la:Option Addr) (gc rc lc:Nat) (w:World) (ht:IsTp w (.slice ga t.gr.length gc) (.slice ra t.rd.length rc) (.slice la t.lk.length lc) t) :
  Calls Try.prog 66 #[tpV t (.slice ga t.gr.length gc) (.slice ra t.rd.length rc) (.slice la t.lk.length lc)] w (Z5D t sndI fstI w):=by
 have E:Ext [] w w:=Ext.refl _ _
 have HT:=Lib.hid ht
 clear ht
 have HK:=Lib.hid (fun W (h:Ext [] w W)=>Z7f hL 119 118 sndI fstI Try.call119 Try.call118 Z7u Z6u ga ra la gc rc lc W (HT.out.ext h (by simp)))
 unfold tpV at HK ⊢
 refine Z01 10 Try.func66 rfl Try.ntmps66 (Nat.le_of_ble_eq_true rfl) ?_
 intro fa F
 refine wp_seq_k fun K1 hK1=>?_
 refine wp_region_lit ?_
 refine Z00 F rfl (by decide) rfl (Z0z rfl (F.at rfl)) ?_;clear F fa;intro fa w1 F hw
 obtain ⟨n1,hn⟩:∃ n,n = w.heap.size:=⟨_,rfl⟩
 rw [← hn] at F
 have s1:w.heap.size ≤ n1:=Nat.le_of_eq hn.symm
 have l1_E:w.heap.size ≤ n1:=by rw [hn];exact E.size
 replace E:=Z2 E hw
 have q1:=Zr hw hn
 clear hw hn
 refine F.vl (Z8 rfl (ev_c fa _)) ?_;clear F fa;intro fa F
 refine F.vl (Z8 rfl (ev_c fa _)) ?_;clear F fa;intro fa F
 refine F.vl (Z8 rfl (ev_c fa _)) ?_;clear F fa;intro fa F
 refine wpList_nil ?_
 refine hK1 _ _ ?_
 clear hK1
 refine wp_seq_k fun K2 hK2=>?_
 refine wp_region_lit ?_
 refine F.vl (Zt rfl (F.at rfl) Try.underlying28 rfl (by kernel_rfl) q1) ?_;clear F fa;intro fa F
 refine ZX F rfl (by decide) rfl (ZG rfl rfl Try.call117 (mpS (F.at rfl) (mpS rfl (mpS rfl mp0)))) (HK.out _ E) fun e w2 hR=>?_
 obtain ⟨L,P,a,pa,c,pc,rfl,h1,h2,h3,h4,h5,eX⟩:=hR
 refine ⟨_,rfl,?_⟩;clear F fa;intro fa F
 replace q1:=(eX).keep0 q1
 replace E:=Z4 E (eX)
 have EX:Ext [] w2 w2:=Ext.refl _ _
 replace h3:=Lib.hid h3
 replace h4:=Lib.hid h4
 replace h5:=Lib.hid h5
 refine F.vl (Zm rfl (F.at rfl) (get0)) ?_;clear F fa;intro fa F
 refine F.vl (Zm rfl (F.at rfl) (getS (get0))) ?_;clear F fa;intro fa F
 refine F.vl (Zm rfl (F.at rfl) (getS (getS (get0)))) ?_;clear F fa;intro fa F
 refine F.as ?_;clear F fa;intro fa F
 refine F.as ?_;clear F fa;intro fa F
 refine F.as ?_;clear F fa;intro fa F
 refine wpList_nil ?_
 refine hK2 _ _ ?_
 clear hK2
 refine wp_ret ?_
 (try simp only [Exit.inBlock,Exit.then])
 refine rt_v F (rs_3 F rfl rfl rfl rfl) ?_
 exact ⟨L,P,a,pa,c,pc,rfl,h1,h2,Z1X h3.out EX,fun p hp=>(h4.out p hp).ext EX,h5.out.ext EX (by simp),E⟩
end Go.Proofs.Ytholfdgebdlgjaa
