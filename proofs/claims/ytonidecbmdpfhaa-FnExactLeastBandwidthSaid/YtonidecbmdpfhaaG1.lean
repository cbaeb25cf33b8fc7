/- Functions of the program as typed functions, and that the machine runs as they say (part 1). No further condition. -/
import Derived.Test.YtonidecbmdpfhaaK3
import Derived.Test.YtonidecbmdpfhaaKC
import Derived.Test.YtonidecbmdpfhaaProg
import Derived.Test.YtonidecbmdpfhaaChecked
import Derived.KernelRfl
set_option linter.unusedVariables false
set_option linter.unusedSimpArgs false
/- Functions of the program, as typed functions, and that the machine runs as they say. -/
namespace Go.Zq
open Go.Proofs Go.Shelf
/- loop.example/g01109/laws.szIntA2S -/
def A47_3 : AC := (AC.cond (O.t 10) (AC.seq (AC.reg [] [(I.mk (some 4) none false (X.v (A.mov (O.k (V.int IntKind.i64 (Int.negSucc 0))))))] []) AC.ret) AC.skip)
def A47_4 : AC := (AC.seq (AC.reg [] [(I.mk (some 11) none false (X.v (A.mov (O.t 1)))), (I.mk (some 4) none false (X.v (A.mov (O.t 11))))] []) AC.ret)
def A47_2 : AC := (AC.seq (AC.seq (AC.reg [] [(I.mk (some 9) none false (X.v (A.mov (O.t 1)))), (I.mk (some 10) none false (X.v (A.bin BinOp.lss (O.t 9) (O.k (V.int IntKind.i64 (Int.ofNat 0))))))] []) A47_3) A47_4)
def A47_1 : AC := (AC.seq (AC.reg [] [(I.mk (some 5) none false (X.v (A.mov (O.t 1)))), (I.mk (some 6) none false (X.v (A.mov (O.t 0)))), (I.mk (some 7) none false (X.v (A.len (O.t 6)))), (I.mk (some 8) none false (X.v (A.bin BinOp.sub (O.t 5) (O.t 7)))), (I.mk (some 1) none false (X.v (A.mov (O.t 8))))] []) A47_2)
def A47 : AC := (AC.seq (AC.reg [] [(I.mk (some 4) none false (X.v (A.mov (O.k (V.int IntKind.i64 (Int.ofNat 0))))))] []) A47_1)
def an47 : List An := []
theorem c47 : cC Try.prog Try.f47.ntmps an47 (Try.f47.body.getD .skip) = some A47 := by kernel_rfl
structure H47 (D : Den) (σ : Sig) (F : Nat) : Prop where
  mk ::
abbrev R47 (r : Int) : (Nat → V) → Prop := RR Try.prog [.tmp 4] 0 false (Enc.enc (r : Int))
section
variable {D : Den} {σ : Sig} {F : Nat} {r : Int}
def w_szIntA2S (F : Nat) (a_1 : (List (Int × Int))) (left_2 : Int) : Option Int :=
  bif decide ((w64 (left_2 - (a_1.length : Int))) < 0) then
    some (-1)
  else
    some (w64 (left_2 - (a_1.length : Int)))
theorem t47 (H : H47 D σ F) (a_1 : (List (Int × Int))) (left_2 : Int) (s : Nat → V) (hs : Facts [(0, (Enc.enc (a_1 : List (Int × Int)))), (1, (.int .i64 left_2))] s) (h : w_szIntA2S F a_1 left_2 = some r) : Run D σ (R47 r) (.run A47 []) s := by
  unfold w_szIntA2S at h
  obtain ⟨h0, h1⟩ := hs
  refine .seq ?_
  refine run_reg ?_
  refine e_end ?_
  refine g_v0 (.int .i64 0) rfl rfl ?_
  refine g_end ?_
  refine e_end ?_
  refine renew [(0, (Enc.enc (a_1 : List (Int × Int)))), (1, (.int .i64 left_2)), (4, (.int .i64 0))] ⟨h0, h1, rfl⟩ ?_
  rintro s ⟨h0, h1, h4⟩
  refine .nsq ?_
  refine .seq ?_
  refine run_reg ?_
  refine e_end ?_
  refine g_v1 (t := 1) (u := (.int .i64 left_2)) (.int .i64 left_2) h1 rfl rfl ?_
  refine g_v1 (t := 0) (u := (Enc.enc (a_1 : List (Int × Int)))) (Enc.enc (a_1 : List (Int × Int))) h0 rfl rfl ?_
  refine g_v (.int .i64 (a_1.length : Int)) (ev_len (xs := a_1) rfl) ?_
  refine g_v2 (t1 := 5) (t2 := 7) (u1 := (.int .i64 left_2)) (u2 := (.int .i64 (a_1.length : Int))) (.int .i64 (w64 (left_2 - (a_1.length : Int)))) rfl rfl rfl rfl ?_
  refine g_v1 (t := 8) (u := (.int .i64 (w64 (left_2 - (a_1.length : Int))))) (.int .i64 (w64 (left_2 - (a_1.length : Int)))) rfl rfl rfl ?_
  refine g_end ?_
  refine e_end ?_
  refine renew [(1, (.int .i64 (w64 (left_2 - (a_1.length : Int))))), (4, (.int .i64 0))] ⟨rfl, h4⟩ ?_
  rintro s ⟨h1, h4⟩
  refine .nsq ?_
  refine .seq ?_
  refine .seq ?_
  refine run_reg ?_
  refine e_end ?_
  refine g_v1 (t := 1) (u := (.int .i64 (w64 (left_2 - (a_1.length : Int))))) (.int .i64 (w64 (left_2 - (a_1.length : Int)))) h1 rfl rfl ?_
  refine g_v1 (t := 9) (u := (.int .i64 (w64 (left_2 - (a_1.length : Int))))) (.bool (decide ((w64 (left_2 - (a_1.length : Int))) < 0))) rfl rfl rfl ?_
  refine g_end ?_
  refine e_end ?_
  refine renew [(1, (.int .i64 (w64 (left_2 - (a_1.length : Int))))), (4, (.int .i64 0)), (10, (.bool (decide ((w64 (left_2 - (a_1.length : Int))) < 0))))] ⟨h1, h4, rfl⟩ ?_
  rintro s ⟨h1, h4, h10⟩
  refine .nsq ?_
  refine run_cond (t := decide ((w64 (left_2 - (a_1.length : Int))) < 0)) h10 h (fun h => ?_) (fun h => ?_)
  · refine .seq ?_
    refine run_reg ?_
    refine e_end ?_
    refine g_v0 (.int .i64 (-1)) rfl rfl ?_
    refine g_end ?_
    refine e_end ?_
    refine renew [(1, (.int .i64 (w64 (left_2 - (a_1.length : Int))))), (4, (.int .i64 (-1)))] ⟨h1, rfl⟩ ?_
    rintro s ⟨h1, h4⟩
    refine .nsq ?_
    refine .ret ?_
    have hr := Option.some.inj h
    subst hr
    exact rrA (res_tmp h4) rfl
  · refine .skip ?_
    refine .nsq ?_
    refine .seq ?_
    refine run_reg ?_
    refine e_end ?_
    refine g_v1 (t := 1) (u := (.int .i64 (w64 (left_2 - (a_1.length : Int))))) (.int .i64 (w64 (left_2 - (a_1.length : Int)))) h1 rfl rfl ?_
    refine g_v1 (t := 11) (u := (.int .i64 (w64 (left_2 - (a_1.length : Int))))) (.int .i64 (w64 (left_2 - (a_1.length : Int)))) rfl rfl rfl ?_
    refine g_end ?_
    refine e_end ?_
    refine renew [(4, (.int .i64 (w64 (left_2 - (a_1.length : Int)))))] rfl ?_
    rintro s h4
    refine .nsq ?_
    refine .ret ?_
    have hr := Option.some.inj h
    subst hr
    exact rrA (res_tmp h4) rfl
end
def e47 (F : Nat) : Ent := ⟨47, da (fun (x : ((List (Int × Int)) × Int × Unit)) => w_szIntA2S F x.1 x.2.1) (fun (r : Int) => (Enc.enc (r : Int))), 0, false, selF []⟩
theorem p47 {F : Nat} {x0 : (List (Int × Int))} {x1 : Int} {r : Int} (h : w_szIntA2S F x0 x1 = some r) : (e47 F).den [Enc.enc x0, Enc.enc x1] = some (Enc.enc (r : Int)) := da_put (f := fun (x : ((List (Int × Int)) × Int × Unit)) => w_szIntA2S F x.1 x.2.1) (t := fun (r : Int) => (Enc.enc (r : Int))) (x0, x1, ()) h
theorem o47 {D : Den} {σ : Sig} {F : Nat} (hF : Fits2 Try.prog D σ) (H : H47 D σ F) : (e47 F).Ok Try.prog := by
  refine ok_of (f := 47) (show unk 47 = 47 from rfl) (fun args r h => ?_) ⟨Try.f47, Try.func47, rfl, rfl⟩
  obtain ⟨⟨x0, x1, _⟩, y, rfl, hy, rfl⟩ := da_open h
  exact contract_run hF (by kernel_rfl) Try.func47 rfl c47 (show 2 ≤ Try.f47.ntmps by decide) (t47 H x0 x1 _ ⟨rfl, rfl⟩ hy)
/- loop.example/g01109/laws.szGraph -/
def A15_3 : AC := (AC.cond (O.t 10) (AC.seq (AC.reg [] [(I.mk (some 4) none false (X.v (A.mov (O.k (V.int IntKind.i64 (Int.negSucc 0))))))] []) AC.ret) AC.skip)
def A15_4 : AC := (AC.seq (AC.reg [] [(I.mk (some 11) none false (X.v (A.mov (O.t 1)))), (I.mk (some 4) none false (X.v (A.mov (O.t 11))))] []) AC.ret)
def A15_2 : AC := (AC.seq (AC.seq (AC.reg [] [(I.mk (some 9) none false (X.v (A.mov (O.t 1)))), (I.mk (some 10) none false (X.v (A.bin BinOp.lss (O.t 9) (O.k (V.int IntKind.i64 (Int.ofNat 0))))))] []) A15_3) A15_4)
def A15_1 : AC := (AC.seq (AC.reg [] [(I.mk (some 5) none false (X.v (A.fld (O.t 2) 1 1))), (I.mk (some 6) none false (X.v (A.load Sh.p (O.t 5)))), (I.mk (some 7) none false (X.v (A.mov (O.t 1)))), (I.mk (some 8) none false (X.call (O.k (V.fn 47 [] [])) [(O.t 6), (O.t 7)])), (I.mk (some 1) none false (X.v (A.mov (O.t 8))))] []) A15_2)
def A15 : AC := (AC.seq (AC.reg [.clr [2]] [(I.mk (some 2) none false (X.box (O.t 0))), (I.mk (some 4) none false (X.v (A.mov (O.k (V.int IntKind.i64 (Int.ofNat 0))))))] []) A15_1)
def an15 : List An := [{ id := 0, pre := [.clr [2]], ep := [], lin := [], sp := [] }]
theorem c15 : cC Try.prog Try.f15.ntmps an15 (Try.f15.body.getD .skip) = some A15 := by kernel_rfl
structure H15 (D : Den) (σ : Sig) (F : Nat) : Prop where
  c47 : ∀ (x0 : (List (Int × Int))) (x1 : Int) r, w_szIntA2S F x0 x1 = some r → D 47 [Enc.enc x0, Enc.enc x1] = some (Enc.enc (r : Int))
  g47 : σ 47 = some (0, false)
abbrev R15 (r : Int) : (Nat → V) → Prop := RR Try.prog [.tmp 4] 0 false (Enc.enc (r : Int))
section
variable {D : Den} {σ : Sig} {F : Nat} {r : Int}
def w_szGraph (F : Nat) (a_1 : (Int × (List (Int × Int)))) (left_2 : Int) : Option Int :=
  (w_szIntA2S F a_1.2 left_2).bind fun r_3 =>
  bif decide (r_3 < 0) then
    some (-1)
  else
    some r_3
theorem t15 (H : H15 D σ F) (a_1 : (Int × (List (Int × Int)))) (left_2 : Int) (s : Nat → V) (hs : Facts [(0, (.agg [(.int .i64 a_1.1), (Enc.enc (a_1.2 : List (Int × Int)))])), (1, (.int .i64 left_2))] s) (h : w_szGraph F a_1 left_2 = some r) : Run D σ (R15 r) (.run A15 []) s := by
  unfold w_szGraph at h
  obtain ⟨h0, h1⟩ := hs
  refine .seq ?_
  refine run_reg ?_
  refine e_clr ?_
  refine e_end ?_
  refine g_box (.agg [(.int .i64 a_1.1), (Enc.enc (a_1.2 : List (Int × Int)))]) (rd_of (keep_clear (s := s) (pk := [2]) h0 rfl (map_agg (maps_cons rfl (maps_cons (Enc.map_enc _ (a_1.2 : List (Int × Int))) maps_nil)))) rfl) (gone_clear (s := s) (pk := [2]) (t := 2) rfl) rfl ?_
  refine g_v0 (.int .i64 0) rfl rfl ?_
  refine g_end ?_
  refine e_end ?_
  refine renew [(1, (.int .i64 left_2)), (2, (.ref (.bx 2) 0 [] (.agg [(.int .i64 a_1.1), (Enc.enc (a_1.2 : List (Int × Int)))]))), (4, (.int .i64 0))] ⟨(keep_clear (s := s) (pk := [2]) h1 rfl rfl), rfl, rfl⟩ ?_
  rintro s ⟨h1, h2, h4⟩
  refine .nsq ?_
  refine .seq ?_
  refine run_reg ?_
  refine e_end ?_
  refine g_v1 (t := 2) (u := (.ref (.bx 2) 0 [] (.agg [(.int .i64 a_1.1), (Enc.enc (a_1.2 : List (Int × Int)))]))) (.ref (.bx 2) 0 [1] (Enc.enc (a_1.2 : List (Int × Int)))) h2 rfl rfl ?_
  refine g_v1 (t := 5) (u := (.ref (.bx 2) 0 [1] (Enc.enc (a_1.2 : List (Int × Int))))) (Enc.enc (a_1.2 : List (Int × Int))) rfl rfl rfl ?_
  refine g_v1 (t := 1) (u := (.int .i64 left_2)) (.int .i64 left_2) h1 rfl rfl ?_
  obtain ⟨r_3, E_r_3, h⟩ := bind_some h
  refine g_call (m := 0) (al := false) (r := (Enc.enc (r_3 : Int))) [Enc.enc (a_1.2 : (List (Int × Int))), Enc.enc (left_2 : Int)] (ta_cons (v := (Enc.enc (a_1.2 : List (Int × Int)))) rfl rfl (Enc.erase_enc (a_1.2 : (List (Int × Int)))) (ta_cons (v := (.int .i64 left_2)) rfl rfl rfl ta_nil)) (H.c47 _ _ _ E_r_3) H.g47 rfl rfl rfl rfl ?_
  refine g_v1 (t := 8) (u := (.int .i64 r_3)) (.int .i64 r_3) rfl rfl rfl ?_
  refine g_end ?_
  refine e_end ?_
  refine renew [(1, (.int .i64 r_3)), (4, (.int .i64 0))] ⟨rfl, h4⟩ ?_
  rintro s ⟨h1, h4⟩
  refine .nsq ?_
  refine .seq ?_
  refine .seq ?_
  refine run_reg ?_
  refine e_end ?_
  refine g_v1 (t := 1) (u := (.int .i64 r_3)) (.int .i64 r_3) h1 rfl rfl ?_
  refine g_v1 (t := 9) (u := (.int .i64 r_3)) (.bool (decide (r_3 < 0))) rfl rfl rfl ?_
  refine g_end ?_
  refine e_end ?_
  refine renew [(1, (.int .i64 r_3)), (4, (.int .i64 0)), (10, (.bool (decide (r_3 < 0))))] ⟨h1, h4, rfl⟩ ?_
  rintro s ⟨h1, h4, h10⟩
  refine .nsq ?_
  refine run_cond (t := decide (r_3 < 0)) h10 h (fun h => ?_) (fun h => ?_)
  · refine .seq ?_
    refine run_reg ?_
    refine e_end ?_
    refine g_v0 (.int .i64 (-1)) rfl rfl ?_
    refine g_end ?_
    refine e_end ?_
    refine renew [(1, (.int .i64 r_3)), (4, (.int .i64 (-1)))] ⟨h1, rfl⟩ ?_
    rintro s ⟨h1, h4⟩
    refine .nsq ?_
    refine .ret ?_
    have hr := Option.some.inj h
    subst hr
    exact rrA (res_tmp h4) rfl
  · refine .skip ?_
    refine .nsq ?_
    refine .seq ?_
    refine run_reg ?_
    refine e_end ?_
    refine g_v1 (t := 1) (u := (.int .i64 r_3)) (.int .i64 r_3) h1 rfl rfl ?_
    refine g_v1 (t := 11) (u := (.int .i64 r_3)) (.int .i64 r_3) rfl rfl rfl ?_
    refine g_end ?_
    refine e_end ?_
    refine renew [(4, (.int .i64 r_3))] rfl ?_
    rintro s h4
    refine .nsq ?_
    refine .ret ?_
    have hr := Option.some.inj h
    subst hr
    exact rrA (res_tmp h4) rfl
end
def e15 (F : Nat) : Ent := ⟨15, da (fun (x : ((Int × (List (Int × Int))) × Int × Unit)) => w_szGraph F x.1 x.2.1) (fun (r : Int) => (Enc.enc (r : Int))), 0, false, selF []⟩
theorem p15 {F : Nat} {x0 : (Int × (List (Int × Int)))} {x1 : Int} {r : Int} (h : w_szGraph F x0 x1 = some r) : (e15 F).den [Enc.enc x0, Enc.enc x1] = some (Enc.enc (r : Int)) := da_put (f := fun (x : ((Int × (List (Int × Int))) × Int × Unit)) => w_szGraph F x.1 x.2.1) (t := fun (r : Int) => (Enc.enc (r : Int))) (x0, x1, ()) h
theorem o15 {D : Den} {σ : Sig} {F : Nat} (hF : Fits2 Try.prog D σ) (H : H15 D σ F) : (e15 F).Ok Try.prog := by
  refine ok_of (f := 15) (show unk 15 = 15 from rfl) (fun args r h => ?_) ⟨Try.f15, Try.func15, rfl, rfl⟩
  obtain ⟨⟨x0, x1, _⟩, y, rfl, hy, rfl⟩ := da_open h
  exact contract_run hF (by kernel_rfl) Try.func15 rfl c15 (show 2 ≤ Try.f15.ntmps by decide) (t15 H x0 x1 _ ⟨rfl, rfl⟩ hy)
/- loop.example/g01109/laws.toIntA2 -/
def A99_2 : AC := (AC.cond (O.t 6) AC.skip (AC.exit 0))
def A99_4 : AC := (AC.reg [] [(I.mk (some 7) none false (X.v (A.mov (O.t 4)))), (I.mk (some 8) none false (X.v (A.bin BinOp.add (O.t 7) (O.k (V.int IntKind.i64 (Int.ofNat 1)))))), (I.mk (some 4) none false (X.v (A.mov (O.t 8))))] [])
def A99_3 : AC := (AC.seq (AC.block 1 (AC.reg [] [(I.mk (some 9) none false (X.v (A.mov (O.t 4)))), (I.mk (some 10) none false (X.v (A.mov (O.t 4)))), (I.mk (some 11) none false (X.v (A.idxA (O.t 1) (O.t 10) 2 1))), (I.mk (some 12) none false (X.v (A.load Sh.s (O.t 11)))), (I.mk (some 13) none false (X.v (A.idxA (O.t 3) (O.t 9) 2 1))), (I.mk none none false (X.store Sh.s (O.t 13) (O.t 12)))] [])) A99_4)
def A99_1 : AC := (AC.seq (AC.seq (AC.reg [] [(I.mk (some 5) none false (X.v (A.mov (O.t 4)))), (I.mk (some 6) none false (X.v (A.bin BinOp.lss (O.t 5) (O.k (V.int IntKind.i64 (Int.ofNat 2))))))] []) A99_2) A99_3)
def A99_5 : AC := (AC.seq (AC.reg [] [(I.mk (some 14) none false (X.v (A.load (Sh.ag [Sh.s, Sh.s]) (O.t 3)))), (I.mk none none false (X.store (Sh.ag [Sh.s, Sh.s]) (O.t 2) (O.t 14)))] []) AC.ret)
def A99_8 : AC := (AC.block 0 (AC.loop A99_1))
def A99_7 : AC := (AC.seq (AC.seq (AC.reg [] [(I.mk (some 4) none false (X.v (A.mov (O.k (V.int IntKind.i64 (Int.ofNat 0))))))] []) A99_8) A99_5)
def A99_6 : AC := (AC.seq (AC.reg [.clr [3]] [(I.mk (some 3) none false (X.alloc (V.agg [(V.int IntKind.i64 (Int.ofNat 0)), (V.int IntKind.i64 (Int.ofNat 0))])))] []) A99_7)
def A99 : AC := (AC.seq (AC.reg [.clr [1, 2]] [(I.mk (some 1) none false (X.box (O.t 0))), (I.mk (some 2) none false (X.alloc (V.agg [(V.int IntKind.i64 (Int.ofNat 0)), (V.int IntKind.i64 (Int.ofNat 0))])))] []) A99_6)
def an99 : List An := [{ id := 0, pre := [.clr [1, 2]], ep := [], lin := [], sp := [] }, { id := 1, pre := [.clr [3]], ep := [], lin := [], sp := [] }]
theorem c99 : cC Try.prog Try.f99.ntmps an99 (Try.f99.body.getD .skip) = some A99 := by kernel_rfl
structure H99 (D : Den) (σ : Sig) (F : Nat) : Prop where
  mk ::
abbrev R99 (r : (Int × Int)) : (Nat → V) → Prop := RR Try.prog [.cell 2 75] 0 false (Enc.enc (r : (Int × Int)))
section
variable {D : Den} {σ : Sig} {F : Nat} {r : (Int × Int)}
def w_toIntA2_l1 (F : Nat) (a_1 : (Int × Int))  : Nat → Int → Int → Int → Option (Int × Int)
  | 0, _, _, _ => none
  | k + 1, out_2, i_3, out_6 =>
    bif decide (i_3 < 2) then
      (idx [a_1.1, a_1.2] i_3).bind fun e_9 =>
      (idx [out_2, out_6] i_3).bind fun e_10 =>
      (w_toIntA2_l1 F a_1 k) (bif i_3 == 0 then e_9 else out_2) (w64 (i_3 + 1)) (bif i_3 == 1 then e_9 else out_6)
    else
      some (out_2, out_6)
theorem t_f99_l1 (H : H99 D σ F) (a_1 : (Int × Int))  : ∀ (k : Nat) (out_2 : Int) (i_3 : Int) (out_6 : Int) (s : Nat → V), Facts [(1, (.ref (.bx 1) 0 [] (.agg [(.int .i64 a_1.1), (.int .i64 a_1.2)]))), (2, (.ref (.bx 2) 0 [] (.agg [(.int .i64 0), (.int .i64 0)]))), (3, (.ref (.bx 3) 0 [] (.agg [(.int .i64 out_2), (.int .i64 out_6)]))), (4, (.int .i64 i_3))] s → w_toIntA2_l1 F a_1 k out_2 i_3 out_6 = some r → Run D σ (R99 r) (.run A99_1 [.lp A99_1, .bk 0, .sq A99_5]) s := by
  intro k
  induction k with
  | zero => intro out_2 i_3 out_6 s _ h; exact nomatch (h : (none : Option _) = some r)
  | succ k ih =>
    intro out_2 i_3 out_6 s hs h
    rw [w_toIntA2_l1] at h
    obtain ⟨h1, h2, h3, h4⟩ := hs
    refine .seq ?_
    refine .seq ?_
    refine run_reg ?_
    refine e_end ?_
    refine g_v1 (t := 4) (u := (.int .i64 i_3)) (.int .i64 i_3) h4 rfl rfl ?_
    refine g_v1 (t := 5) (u := (.int .i64 i_3)) (.bool (decide (i_3 < 2))) rfl rfl rfl ?_
    refine g_end ?_
    refine e_end ?_
    refine renew [(1, (.ref (.bx 1) 0 [] (.agg [(.int .i64 a_1.1), (.int .i64 a_1.2)]))), (2, (.ref (.bx 2) 0 [] (.agg [(.int .i64 0), (.int .i64 0)]))), (3, (.ref (.bx 3) 0 [] (.agg [(.int .i64 out_2), (.int .i64 out_6)]))), (4, (.int .i64 i_3)), (6, (.bool (decide (i_3 < 2))))] ⟨h1, h2, h3, h4, rfl⟩ ?_
    rintro s ⟨h1, h2, h3, h4, h6⟩
    refine .nsq ?_
    refine run_cond (t := decide (i_3 < 2)) h6 h (fun h => ?_) (fun h => ?_)
    · refine .skip ?_
      refine .nsq ?_
      refine .seq ?_
      refine .block ?_
      refine run_reg ?_
      refine e_end ?_
      refine g_v1 (t := 4) (u := (.int .i64 i_3)) (.int .i64 i_3) h4 rfl rfl ?_
      refine g_v1 (t := 4) (u := (.int .i64 i_3)) (.int .i64 i_3) h4 rfl rfl ?_
      obtain ⟨e_9, E_e_9, h⟩ := bind_some h
      refine g_v (.ref (.bx 1) 0 [i_3.toNat] (.int .i64 e_9)) (ev_idxA (xs := [a_1.1, a_1.2]) (a := e_9) (n := i_3) (q := []) h1 rfl E_e_9 rfl rfl rfl) ?_
      refine g_v1 (t := 11) (u := (.ref (.bx 1) 0 [i_3.toNat] (.int .i64 e_9))) (.int .i64 e_9) rfl rfl rfl ?_
      obtain ⟨e_10, E_e_10, h⟩ := bind_some h
      refine g_v (.ref (.bx 3) 0 [i_3.toNat] (.int .i64 e_10)) (ev_idxA (xs := [out_2, out_6]) (a := e_10) (n := i_3) (q := []) h3 rfl E_e_10 rfl rfl rfl) ?_
      refine g_store (.int .i64 e_9) (rd_of rfl rfl) (rd_of rfl rfl) (by refine ⟨by decide, by decide, rfl, rfl, rfl, ?_⟩; first | rfl | simp [V.toks, V.tokss, Enc.toks_enc]) ?_
      refine g_end ?_
      refine e_end ?_
      refine renew [(1, (.ref (.bx 1) 0 [] (.agg [(.int .i64 a_1.1), (.int .i64 a_1.2)]))), (2, (.ref (.bx 2) 0 [] (.agg [(.int .i64 0), (.int .i64 0)]))), (3, (.ref (.bx 3) 0 [] (.agg [(.int .i64 (bif i_3 == 0 then e_9 else out_2)), (.int .i64 (bif i_3 == 1 then e_9 else out_6))]))), (4, (.int .i64 i_3))] ⟨(keep_mut h1 rfl), (keep_mut h2 rfl), (keep_mut h3 (mut_ix2 E_e_10 rfl)), (keep_mut h4 rfl)⟩ ?_
      rintro s ⟨h1, h2, h3, h4⟩
      refine .nbk ?_
      refine .nsq ?_
      refine run_reg ?_
      refine e_end ?_
      refine g_v1 (t := 4) (u := (.int .i64 i_3)) (.int .i64 i_3) h4 rfl rfl ?_
      refine g_v1 (t := 7) (u := (.int .i64 i_3)) (.int .i64 (w64 (i_3 + 1))) rfl rfl rfl ?_
      refine g_v1 (t := 8) (u := (.int .i64 (w64 (i_3 + 1)))) (.int .i64 (w64 (i_3 + 1))) rfl rfl rfl ?_
      refine g_end ?_
      refine e_end ?_
      refine renew [(1, (.ref (.bx 1) 0 [] (.agg [(.int .i64 a_1.1), (.int .i64 a_1.2)]))), (2, (.ref (.bx 2) 0 [] (.agg [(.int .i64 0), (.int .i64 0)]))), (3, (.ref (.bx 3) 0 [] (.agg [(.int .i64 (bif i_3 == 0 then e_9 else out_2)), (.int .i64 (bif i_3 == 1 then e_9 else out_6))]))), (4, (.int .i64 (w64 (i_3 + 1))))] ⟨h1, h2, h3, rfl⟩ ?_
      rintro s ⟨h1, h2, h3, h4⟩
      refine .nlp ?_
      exact ih (bif i_3 == 0 then e_9 else out_2) (w64 (i_3 + 1)) (bif i_3 == 1 then e_9 else out_6) _ ⟨h1, h2, h3, h4⟩ h
    · refine .exit ?_
      refine .esq ?_
      refine .elp ?_
      refine .ebk ?_
      refine .nsq ?_
      refine .seq ?_
      refine run_reg ?_
      refine e_end ?_
      refine g_v1 (t := 3) (u := (.ref (.bx 3) 0 [] (.agg [(.int .i64 out_2), (.int .i64 out_6)]))) (.agg [(.int .i64 out_2), (.int .i64 out_6)]) h3 rfl rfl ?_
      refine g_store (.agg [(.int .i64 out_2), (.int .i64 out_6)]) (rd_of h2 rfl) (rd_of rfl rfl) (by refine ⟨by decide, by decide, rfl, rfl, rfl, ?_⟩; first | rfl | simp [V.toks, V.tokss, Enc.toks_enc]) ?_
      refine g_end ?_
      refine e_end ?_
      refine renew [(2, (.ref (.bx 2) 0 [] (.agg [(.int .i64 out_2), (.int .i64 out_6)])))] (keep_mut h2 rfl) ?_
      rintro s h2
      refine .nsq ?_
      refine .ret ?_
      have hr := Option.some.inj h
      subst hr
      exact rrA (res_cell h2 (by kernel_rfl)) rfl
def w_toIntA2 (F : Nat) (a_1 : (Int × Int)) : Option (Int × Int) :=
  w_toIntA2_l1 F a_1 F 0 0 0
theorem t99 (H : H99 D σ F) (a_1 : (Int × Int)) (s : Nat → V) (hs : Facts [(0, (.agg [(.int .i64 a_1.1), (.int .i64 a_1.2)]))] s) (h : w_toIntA2 F a_1 = some r) : Run D σ (R99 r) (.run A99 []) s := by
  unfold w_toIntA2 at h
  have h0 := hs
  refine .seq ?_
  refine run_reg ?_
  refine e_clr ?_
  refine e_end ?_
  refine g_box (.agg [(.int .i64 a_1.1), (.int .i64 a_1.2)]) (rd_of (keep_clear (s := s) (pk := [1, 2]) h0 rfl (map_agg (maps_cons rfl (maps_cons rfl maps_nil)))) rfl) (gone_clear (s := s) (pk := [1, 2]) (t := 1) rfl) rfl ?_
  refine g_alloc (gone_clear (s := s) (pk := [1, 2]) (t := 2) rfl) ?_
  refine g_end ?_
  refine e_end ?_
  refine renew [(1, (.ref (.bx 1) 0 [] (.agg [(.int .i64 a_1.1), (.int .i64 a_1.2)]))), (2, (.ref (.bx 2) 0 [] (.agg [(.int .i64 0), (.int .i64 0)])))] ⟨rfl, rfl⟩ ?_
  rintro s ⟨h1, h2⟩
  refine .nsq ?_
  refine .seq ?_
  refine run_reg ?_
  refine e_clr ?_
  refine e_end ?_
  refine g_alloc (gone_clear (s := s) (pk := [3]) (t := 3) rfl) ?_
  refine g_end ?_
  refine e_end ?_
  refine renew [(1, (.ref (.bx 1) 0 [] (.agg [(.int .i64 a_1.1), (.int .i64 a_1.2)]))), (2, (.ref (.bx 2) 0 [] (.agg [(.int .i64 0), (.int .i64 0)]))), (3, (.ref (.bx 3) 0 [] (.agg [(.int .i64 0), (.int .i64 0)])))] ⟨(keep_clear (s := s) (pk := [3]) h1 rfl (map_bx rfl (map_agg (maps_cons rfl (maps_cons rfl maps_nil))))), (keep_clear (s := s) (pk := [3]) h2 rfl (map_bx rfl (map_agg (maps_cons rfl (maps_cons rfl maps_nil))))), rfl⟩ ?_
  rintro s ⟨h1, h2, h3⟩
  refine .nsq ?_
  refine .seq ?_
  refine .seq ?_
  refine run_reg ?_
  refine e_end ?_
  refine g_v0 (.int .i64 0) rfl rfl ?_
  refine g_end ?_
  refine e_end ?_
  refine renew [(1, (.ref (.bx 1) 0 [] (.agg [(.int .i64 a_1.1), (.int .i64 a_1.2)]))), (2, (.ref (.bx 2) 0 [] (.agg [(.int .i64 0), (.int .i64 0)]))), (3, (.ref (.bx 3) 0 [] (.agg [(.int .i64 0), (.int .i64 0)]))), (4, (.int .i64 0))] ⟨h1, h2, h3, rfl⟩ ?_
  rintro s ⟨h1, h2, h3, h4⟩
  refine .nsq ?_
  refine .block ?_
  refine .loop ?_
  exact t_f99_l1 H a_1 F 0 0 0 _ ⟨h1, h2, h3, h4⟩ h
end
def e99 (F : Nat) : Ent := ⟨99, da (fun (x : ((Int × Int) × Unit)) => w_toIntA2 F x.1) (fun (r : (Int × Int)) => (Enc.enc (r : (Int × Int)))), 0, false, selF []⟩
theorem p99 {F : Nat} {x0 : (Int × Int)} {r : (Int × Int)} (h : w_toIntA2 F x0 = some r) : (e99 F).den [Enc.enc x0] = some (Enc.enc (r : (Int × Int))) := da_put (f := fun (x : ((Int × Int) × Unit)) => w_toIntA2 F x.1) (t := fun (r : (Int × Int)) => (Enc.enc (r : (Int × Int)))) (x0, ()) h
theorem o99 {D : Den} {σ : Sig} {F : Nat} (hF : Fits2 Try.prog D σ) (H : H99 D σ F) : (e99 F).Ok Try.prog := by
  refine ok_of (f := 99) (show unk 99 = 99 from rfl) (fun args r h => ?_) ⟨Try.f99, Try.func99, rfl, rfl⟩
  obtain ⟨⟨x0, _⟩, y, rfl, hy, rfl⟩ := da_open h
  exact contract_run hF (by kernel_rfl) Try.func99 rfl c99 (show 1 ≤ Try.f99.ntmps by decide) (t99 H x0 _ rfl hy)
/- loop.example/g01109/laws.toIntA2S -/
def A50_2 : AC := (AC.cond (O.t 11) AC.skip (AC.exit 0))
def A50_4 : AC := (AC.reg [] [(I.mk (some 12) none false (X.v (A.mov (O.t 4)))), (I.mk (some 13) none false (X.v (A.bin BinOp.add (O.t 12) (O.k (V.int IntKind.i64 (Int.ofNat 1)))))), (I.mk (some 4) none false (X.v (A.mov (O.t 13))))] [])
def A50_3 : AC := (AC.seq (AC.block 1 (AC.reg [] [(I.mk (some 14) none false (X.v (A.mov (O.t 3)))), (I.mk (some 15) none false (X.v (A.mov (O.t 4)))), (I.mk (some 16) none false (X.v (A.mov (O.t 0)))), (I.mk (some 17) none false (X.v (A.mov (O.t 4)))), (I.mk (some 18) none false (X.v (A.idx (O.t 16) (O.t 17) 2))), (I.mk (some 19) none false (X.v (A.load (Sh.ag [Sh.s, Sh.s]) (O.t 18)))), (I.mk (some 20) none false (X.call (O.k (V.fn 99 [] [])) [(O.t 19)])), (I.mk (some 21) none false (X.v (A.idx (O.t 14) (O.t 15) 2))), (I.mk none none false (X.store (Sh.ag [Sh.s, Sh.s]) (O.t 21) (O.t 20)))] [])) A50_4)
def A50_1 : AC := (AC.seq (AC.seq (AC.reg [] [(I.mk (some 8) none false (X.v (A.mov (O.t 4)))), (I.mk (some 9) none false (X.v (A.mov (O.t 0)))), (I.mk (some 10) none false (X.v (A.len (O.t 9)))), (I.mk (some 11) none false (X.v (A.bin BinOp.lss (O.t 8) (O.t 10))))] []) A50_2) A50_3)
def A50_5 : AC := (AC.seq (AC.reg [] [(I.mk (some 22) none false (X.v (A.mov (O.t 3)))), (I.mk (some 2) none false (X.v (A.mov (O.t 22))))] [.home 3 2]) AC.ret)
def A50_8 : AC := (AC.block 0 (AC.loop A50_1))
def A50_7 : AC := (AC.seq (AC.seq (AC.reg [] [(I.mk (some 4) none false (X.v (A.mov (O.k (V.int IntKind.i64 (Int.ofNat 0))))))] []) A50_8) A50_5)
def A50_6 : AC := (AC.seq (AC.reg [.clr [7]] [(I.mk (some 5) none false (X.v (A.mov (O.t 0)))), (I.mk (some 6) none false (X.v (A.len (O.t 5)))), (I.mk (some 7) none false (X.mk (O.t 6) (V.agg [(V.int IntKind.i64 (Int.ofNat 0)), (V.int IntKind.i64 (Int.ofNat 0))]))), (I.mk (some 3) none false (X.v (A.mov (O.t 7))))] [.home 7 3]) A50_7)
def A50 : AC := (AC.seq (AC.reg [] [(I.mk (some 2) none false (X.v (A.mov (O.k (V.sl Tok.nl (Sh.ag [Sh.s, Sh.s]) 0 [])))))] []) A50_6)
def an50 : List An := [{ id := 1, pre := [.clr [7]], ep := [.home 7 3], lin := [], sp := [] }, { id := 6, pre := [], ep := [.home 3 2], lin := [], sp := [] }]
theorem c50 : cC Try.prog Try.f50.ntmps an50 (Try.f50.body.getD .skip) = some A50 := by kernel_rfl
structure H50 (D : Den) (σ : Sig) (F : Nat) : Prop where
  c99 : ∀ (x0 : (Int × Int)) r, w_toIntA2 F x0 = some r → D 99 [Enc.enc x0] = some (Enc.enc (r : (Int × Int)))
  g99 : σ 99 = some (0, false)
abbrev R50 (r : (List (Int × Int))) : (Nat → V) → Prop := RR Try.prog [.tmp 2] 0 false (Enc.enc (r : (List (Int × Int))))
section
variable {D : Den} {σ : Sig} {F : Nat} {r : (List (Int × Int))}
def w_toIntA2S_l1 (F : Nat) (a_1 : (List (Int × Int)))  : Nat → (List (Int × Int)) → Int → Option (List (Int × Int))
  | 0, _, _ => none
  | k + 1, out_6, i_7 =>
    bif decide (i_7 < (a_1.length : Int)) then
      (idx a_1 i_7).bind fun e_11 =>
      (w_toIntA2 F e_11).bind fun r_12 =>
      (idx out_6 i_7).bind fun e_13 =>
      (w_toIntA2S_l1 F a_1 k) (out_6.set i_7.toNat r_12) (w64 (i_7 + 1))
    else
      some out_6
theorem t_f50_l1 (H : H50 D σ F) (a_1 : (List (Int × Int)))  : ∀ (k : Nat) (out_6 : (List (Int × Int))) (i_7 : Int) (s : Nat → V), Facts [(0, (Enc.enc (a_1 : List (Int × Int)))), (2, (.sl .nl (Enc.shp (Int × Int)) 0 [])), (3, (encO (.at 3 []) (.of (out_6 : List (Int × Int))))), (4, (.int .i64 i_7))] s → w_toIntA2S_l1 F a_1 k out_6 i_7 = some r → Run D σ (R50 r) (.run A50_1 [.lp A50_1, .bk 0, .sq A50_5]) s := by
  intro k
  induction k with
  | zero => intro out_6 i_7 s _ h; exact nomatch (h : (none : Option _) = some r)
  | succ k ih =>
    intro out_6 i_7 s hs h
    rw [w_toIntA2S_l1] at h
    obtain ⟨h0, h2, h3, h4⟩ := hs
    refine .seq ?_
    refine .seq ?_
    refine run_reg ?_
    refine e_end ?_
    refine g_v1 (t := 4) (u := (.int .i64 i_7)) (.int .i64 i_7) h4 rfl rfl ?_
    refine g_v1 (t := 0) (u := (Enc.enc (a_1 : List (Int × Int)))) (Enc.enc (a_1 : List (Int × Int))) h0 rfl rfl ?_
    refine g_v (.int .i64 (a_1.length : Int)) (ev_len (xs := a_1) rfl) ?_
    refine g_v2 (t1 := 8) (t2 := 10) (u1 := (.int .i64 i_7)) (u2 := (.int .i64 (a_1.length : Int))) (.bool (decide (i_7 < (a_1.length : Int)))) rfl rfl rfl rfl ?_
    refine g_end ?_
    refine e_end ?_
    refine renew [(0, (Enc.enc (a_1 : List (Int × Int)))), (2, (.sl .nl (Enc.shp (Int × Int)) 0 [])), (3, (encO (.at 3 []) (.of (out_6 : List (Int × Int))))), (4, (.int .i64 i_7)), (11, (.bool (decide (i_7 < (a_1.length : Int)))))] ⟨h0, h2, h3, h4, rfl⟩ ?_
    rintro s ⟨h0, h2, h3, h4, h11⟩
    refine .nsq ?_
    refine run_cond (t := decide (i_7 < (a_1.length : Int))) h11 h (fun h => ?_) (fun h => ?_)
    · refine .skip ?_
      refine .nsq ?_
      refine .seq ?_
      refine .block ?_
      refine run_reg ?_
      refine e_end ?_
      refine g_v1 (t := 3) (u := (encO (.at 3 []) (.of (out_6 : List (Int × Int))))) (encO (.at 3 []) (.of (out_6 : List (Int × Int)))) h3 rfl rfl ?_
      refine g_v1 (t := 4) (u := (.int .i64 i_7)) (.int .i64 i_7) h4 rfl rfl ?_
      refine g_v1 (t := 0) (u := (Enc.enc (a_1 : List (Int × Int)))) (Enc.enc (a_1 : List (Int × Int))) h0 rfl rfl ?_
      refine g_v1 (t := 4) (u := (.int .i64 i_7)) (.int .i64 i_7) h4 rfl rfl ?_
      obtain ⟨e_11, E_e_11, h⟩ := bind_some h
      refine g_v (.ref .sh 0 [] (.agg [(.int .i64 e_11.1), (.int .i64 e_11.2)])) (ev_idx (t := .sh) (lo := 0) (xs := a_1) rfl rfl E_e_11 rfl rfl) ?_
      refine g_v1 (t := 18) (u := (.ref .sh 0 [] (.agg [(.int .i64 e_11.1), (.int .i64 e_11.2)]))) (.agg [(.int .i64 e_11.1), (.int .i64 e_11.2)]) rfl rfl rfl ?_
      obtain ⟨r_12, E_r_12, h⟩ := bind_some h
      refine g_call (m := 0) (al := false) (r := (Enc.enc (r_12 : (Int × Int)))) [Enc.enc (e_11 : (Int × Int))] (ta_cons (v := (.agg [(.int .i64 e_11.1), (.int .i64 e_11.2)])) rfl rfl (Enc.erase_enc (e_11 : (Int × Int))) ta_nil) (H.c99 _ _ E_r_12) H.g99 rfl rfl rfl rfl ?_
      obtain ⟨e_13, E_e_13, h⟩ := bind_some h
      refine g_v (.ref (.at 3 []) i_7.toNat [] (.agg [(.int .i64 e_13.1), (.int .i64 e_13.2)])) (ev_idxO (o := (.of out_6)) rfl rfl E_e_13 rfl) ?_
      refine g_store (.agg [(.int .i64 r_12.1), (.int .i64 r_12.2)]) (rd_of rfl rfl) (rd_of rfl rfl) (by refine ⟨by decide, by decide, rfl, rfl, rfl, ?_⟩; first | rfl | simp [V.toks, V.tokss, Enc.toks_enc]) ?_
      refine g_end ?_
      refine e_end ?_
      refine renew [(0, (Enc.enc (a_1 : List (Int × Int)))), (2, (.sl .nl (Enc.shp (Int × Int)) 0 [])), (3, (encO (.at 3 []) (.of (out_6.set i_7.toNat r_12 : List (Int × Int))))), (4, (.int .i64 i_7))] ⟨(keep_mut h0 (Enc.mut_enc _ _ _ _ (a_1 : List (Int × Int)))), (keep_mut h2 rfl), (keep_mut h3 mut_own), (keep_mut h4 rfl)⟩ ?_
      rintro s ⟨h0, h2, h3, h4⟩
      refine .nbk ?_
      refine .nsq ?_
      refine run_reg ?_
      refine e_end ?_
      refine g_v1 (t := 4) (u := (.int .i64 i_7)) (.int .i64 i_7) h4 rfl rfl ?_
      refine g_v1 (t := 12) (u := (.int .i64 i_7)) (.int .i64 (w64 (i_7 + 1))) rfl rfl rfl ?_
      refine g_v1 (t := 13) (u := (.int .i64 (w64 (i_7 + 1)))) (.int .i64 (w64 (i_7 + 1))) rfl rfl rfl ?_
      refine g_end ?_
      refine e_end ?_
      refine renew [(0, (Enc.enc (a_1 : List (Int × Int)))), (2, (.sl .nl (Enc.shp (Int × Int)) 0 [])), (3, (encO (.at 3 []) (.of (out_6.set i_7.toNat r_12 : List (Int × Int))))), (4, (.int .i64 (w64 (i_7 + 1))))] ⟨h0, h2, h3, rfl⟩ ?_
      rintro s ⟨h0, h2, h3, h4⟩
      refine .nlp ?_
      exact ih (out_6.set i_7.toNat r_12) (w64 (i_7 + 1)) _ ⟨h0, h2, h3, h4⟩ h
    · refine .exit ?_
      refine .esq ?_
      refine .elp ?_
      refine .ebk ?_
      refine .nsq ?_
      refine .seq ?_
      refine run_reg ?_
      refine e_end ?_
      refine g_v1 (t := 3) (u := (encO (.at 3 []) (.of (out_6 : List (Int × Int))))) (encO (.at 3 []) (.of (out_6 : List (Int × Int)))) h3 rfl rfl ?_
      refine g_v1 (t := 22) (u := (encO (.at 3 []) (.of (out_6 : List (Int × Int))))) (encO (.at 3 []) (.of (out_6 : List (Int × Int)))) rfl rfl rfl ?_
      refine g_end ?_
      refine e_home (r := 3) (x := 2) (v := (encO (.at 3 []) (.of (out_6 : List (Int × Int))))) (by exact rfl) rfl (fun s_3 hg_3 => ?_)
      refine e_end ?_
      refine renew [(2, (encO (.at 2 []) (.of (out_6 : List (Int × Int)))))] (hg_3 2 (encO (.at 3 []) (.of (out_6 : List (Int × Int)))) (encO (.at 2 []) (.of (out_6 : List (Int × Int)))) rfl (map_encO (r := 3) (p := []) rfl rfl)) ?_
      rintro s h2
      refine .nsq ?_
      refine .ret ?_
      have hr := Option.some.inj h
      subst hr
      exact rrA (res_tmp h2) (fin_retF (fin_own (o := .of out_6)) (mine_own rfl))
def w_toIntA2S (F : Nat) (a_1 : (List (Int × Int))) : Option (List (Int × Int)) :=
  (mkN (a_1.length : Int) (0, 0)).bind fun mk_2 =>
  w_toIntA2S_l1 F a_1 F mk_2 0
theorem t50 (H : H50 D σ F) (a_1 : (List (Int × Int))) (s : Nat → V) (hs : Facts [(0, (Enc.enc (a_1 : List (Int × Int))))] s) (h : w_toIntA2S F a_1 = some r) : Run D σ (R50 r) (.run A50 []) s := by
  unfold w_toIntA2S at h
  have h0 := hs
  refine .seq ?_
  refine run_reg ?_
  refine e_end ?_
  refine g_v0 (.sl .nl (Enc.shp (Int × Int)) 0 []) rfl rfl ?_
  refine g_end ?_
  refine e_end ?_
  refine renew [(0, (Enc.enc (a_1 : List (Int × Int)))), (2, (.sl .nl (Enc.shp (Int × Int)) 0 []))] ⟨h0, rfl⟩ ?_
  rintro s ⟨h0, h2⟩
  refine .nsq ?_
  refine .seq ?_
  refine run_reg ?_
  refine e_clr ?_
  refine e_end ?_
  refine g_v1 (t := 0) (u := (Enc.enc (a_1 : List (Int × Int)))) (Enc.enc (a_1 : List (Int × Int))) (keep_clear (s := s) (pk := [7]) h0 rfl (Enc.map_enc _ (a_1 : List (Int × Int)))) rfl rfl ?_
  refine g_v (.int .i64 (a_1.length : Int)) (ev_len (xs := a_1) rfl) ?_
  obtain ⟨mk_2, E_mk_2, h⟩ := bind_some h
  refine g_mk ((0, 0) : (Int × Int)) rfl rfl (gone_clear (s := s) (pk := [7]) (t := 7) rfl) E_mk_2 ?_
  refine g_v1 (t := 7) (u := (encO (.at 7 []) (.of (mk_2 : List (Int × Int))))) (encO (.at 7 []) (.of (mk_2 : List (Int × Int)))) rfl rfl rfl ?_
  refine g_end ?_
  refine e_home (r := 7) (x := 3) (v := (encO (.at 7 []) (.of (mk_2 : List (Int × Int))))) (by exact rfl) rfl (fun s_2 hg_2 => ?_)
  refine e_end ?_
  refine renew [(0, (Enc.enc (a_1 : List (Int × Int)))), (2, (.sl .nl (Enc.shp (Int × Int)) 0 [])), (3, (encO (.at 3 []) (.of (mk_2 : List (Int × Int)))))] ⟨(hg_2 0 (Enc.enc (a_1 : List (Int × Int))) (Enc.enc (a_1 : List (Int × Int))) (keep_clear (s := s) (pk := [7]) h0 rfl (Enc.map_enc _ (a_1 : List (Int × Int)))) (Enc.map_enc _ (a_1 : List (Int × Int)))), (hg_2 2 (.sl .nl (Enc.shp (Int × Int)) 0 []) (.sl .nl (Enc.shp (Int × Int)) 0 []) (keep_clear (s := s) (pk := [7]) h2 rfl rfl) rfl), (hg_2 3 (encO (.at 7 []) (.of (mk_2 : List (Int × Int)))) (encO (.at 3 []) (.of (mk_2 : List (Int × Int)))) rfl (map_encO (r := 7) (p := []) rfl rfl))⟩ ?_
  rintro s ⟨h0, h2, h3⟩
  refine .nsq ?_
  refine .seq ?_
  refine .seq ?_
  refine run_reg ?_
  refine e_end ?_
  refine g_v0 (.int .i64 0) rfl rfl ?_
  refine g_end ?_
  refine e_end ?_
  refine renew [(0, (Enc.enc (a_1 : List (Int × Int)))), (2, (.sl .nl (Enc.shp (Int × Int)) 0 [])), (3, (encO (.at 3 []) (.of (mk_2 : List (Int × Int))))), (4, (.int .i64 0))] ⟨h0, h2, h3, rfl⟩ ?_
  rintro s ⟨h0, h2, h3, h4⟩
  refine .nsq ?_
  refine .block ?_
  refine .loop ?_
  exact t_f50_l1 H a_1 F mk_2 0 _ ⟨h0, h2, h3, h4⟩ h
end
def e50 (F : Nat) : Ent := ⟨50, da (fun (x : ((List (Int × Int)) × Unit)) => w_toIntA2S F x.1) (fun (r : (List (Int × Int))) => (Enc.enc (r : (List (Int × Int))))), 0, false, selF []⟩
theorem p50 {F : Nat} {x0 : (List (Int × Int))} {r : (List (Int × Int))} (h : w_toIntA2S F x0 = some r) : (e50 F).den [Enc.enc x0] = some (Enc.enc (r : (List (Int × Int)))) := da_put (f := fun (x : ((List (Int × Int)) × Unit)) => w_toIntA2S F x.1) (t := fun (r : (List (Int × Int))) => (Enc.enc (r : (List (Int × Int))))) (x0, ()) h
theorem o50 {D : Den} {σ : Sig} {F : Nat} (hF : Fits2 Try.prog D σ) (H : H50 D σ F) : (e50 F).Ok Try.prog := by
  refine ok_of (f := 50) (show unk 50 = 50 from rfl) (fun args r h => ?_) ⟨Try.f50, Try.func50, rfl, rfl⟩
  obtain ⟨⟨x0, _⟩, y, rfl, hy, rfl⟩ := da_open h
  exact contract_run hF (by kernel_rfl) Try.func50 rfl c50 (show 1 ≤ Try.f50.ntmps by decide) (t50 H x0 _ rfl hy)
/- loop.example/g01109/laws.toGraph -/
def A17_4 : AC := (AC.seq (AC.reg [] [(I.mk (some 11) none false (X.v (A.load (Sh.ag [Sh.s, Sh.p]) (O.t 3)))), (I.mk none none false (X.store (Sh.ag [Sh.s, Sh.p]) (O.t 2) (O.t 11)))] []) AC.ret)
def A17_3 : AC := (AC.seq (AC.reg [] [(I.mk (some 7) none false (X.v (A.fld (O.t 1) 1 1))), (I.mk (some 8) none false (X.v (A.load Sh.p (O.t 7)))), (I.mk (some 9) none false (X.call (O.k (V.fn 50 [] [])) [(O.t 8)])), (I.mk (some 10) none false (X.v (A.fld (O.t 3) 1 1))), (I.mk none none false (X.store Sh.p (O.t 10) (O.t 9)))] []) A17_4)
def A17_2 : AC := (AC.seq (AC.reg [] [(I.mk (some 4) none false (X.v (A.fld (O.t 1) 0 0))), (I.mk (some 5) none false (X.v (A.load Sh.s (O.t 4)))), (I.mk (some 6) none false (X.v (A.fld (O.t 3) 0 0))), (I.mk none none false (X.store Sh.s (O.t 6) (O.t 5)))] []) A17_3)
def A17_1 : AC := (AC.seq (AC.reg [.clr [3]] [(I.mk (some 3) none false (X.alloc (V.agg [(V.int IntKind.i64 (Int.ofNat 0)), (V.sl Tok.nl (Sh.ag [Sh.s, Sh.s]) 0 [])])))] []) A17_2)
def A17 : AC := (AC.seq (AC.reg [.clr [1, 2]] [(I.mk (some 1) none false (X.box (O.t 0))), (I.mk (some 2) none false (X.alloc (V.agg [(V.int IntKind.i64 (Int.ofNat 0)), (V.sl Tok.nl (Sh.ag [Sh.s, Sh.s]) 0 [])])))] []) A17_1)
def an17 : List An := [{ id := 0, pre := [.clr [1, 2]], ep := [], lin := [], sp := [] }, { id := 1, pre := [.clr [3]], ep := [], lin := [], sp := [] }]
theorem c17 : cC Try.prog Try.f17.ntmps an17 (Try.f17.body.getD .skip) = some A17 := by kernel_rfl
structure H17 (D : Den) (σ : Sig) (F : Nat) : Prop where
  c50 : ∀ (x0 : (List (Int × Int))) r, w_toIntA2S F x0 = some r → D 50 [Enc.enc x0] = some (Enc.enc (r : (List (Int × Int))))
  g50 : σ 50 = some (0, false)
abbrev R17 (r : (Int × (List (Int × Int)))) : (Nat → V) → Prop := RR Try.prog [.cell 2 29] 0 true (Enc.enc (r : (Int × (List (Int × Int)))))
section
variable {D : Den} {σ : Sig} {F : Nat} {r : (Int × (List (Int × Int)))}
def w_toGraph (F : Nat) (a_1 : (Int × (List (Int × Int)))) : Option (Int × (List (Int × Int))) :=
  (w_toIntA2S F a_1.2).bind fun r_2 =>
  some (a_1.1, r_2)
theorem t17 (H : H17 D σ F) (a_1 : (Int × (List (Int × Int)))) (s : Nat → V) (hs : Facts [(0, (.agg [(.int .i64 a_1.1), (Enc.enc (a_1.2 : List (Int × Int)))]))] s) (h : w_toGraph F a_1 = some r) : Run D σ (R17 r) (.run A17 []) s := by
  unfold w_toGraph at h
  have h0 := hs
  refine .seq ?_
  refine run_reg ?_
  refine e_clr ?_
  refine e_end ?_
  refine g_box (.agg [(.int .i64 a_1.1), (Enc.enc (a_1.2 : List (Int × Int)))]) (rd_of (keep_clear (s := s) (pk := [1, 2]) h0 rfl (map_agg (maps_cons rfl (maps_cons (Enc.map_enc _ (a_1.2 : List (Int × Int))) maps_nil)))) rfl) (gone_clear (s := s) (pk := [1, 2]) (t := 1) rfl) rfl ?_
  refine g_alloc (gone_clear (s := s) (pk := [1, 2]) (t := 2) rfl) ?_
  refine g_end ?_
  refine e_end ?_
  refine renew [(1, (.ref (.bx 1) 0 [] (.agg [(.int .i64 a_1.1), (Enc.enc (a_1.2 : List (Int × Int)))]))), (2, (.ref (.bx 2) 0 [] (.agg [(.int .i64 0), (.sl .nl (Enc.shp (Int × Int)) 0 [])])))] ⟨rfl, rfl⟩ ?_
  rintro s ⟨h1, h2⟩
  refine .nsq ?_
  refine .seq ?_
  refine run_reg ?_
  refine e_clr ?_
  refine e_end ?_
  refine g_alloc (gone_clear (s := s) (pk := [3]) (t := 3) rfl) ?_
  refine g_end ?_
  refine e_end ?_
  refine renew [(1, (.ref (.bx 1) 0 [] (.agg [(.int .i64 a_1.1), (Enc.enc (a_1.2 : List (Int × Int)))]))), (2, (.ref (.bx 2) 0 [] (.agg [(.int .i64 0), (.sl .nl (Enc.shp (Int × Int)) 0 [])]))), (3, (.ref (.bx 3) 0 [] (.agg [(.int .i64 0), (.sl .nl (Enc.shp (Int × Int)) 0 [])])))] ⟨(keep_clear (s := s) (pk := [3]) h1 rfl (map_bx rfl (map_agg (maps_cons rfl (maps_cons (Enc.map_enc _ (a_1.2 : List (Int × Int))) maps_nil))))), (keep_clear (s := s) (pk := [3]) h2 rfl (map_bx rfl (map_agg (maps_cons rfl (maps_cons rfl maps_nil))))), rfl⟩ ?_
  rintro s ⟨h1, h2, h3⟩
  refine .nsq ?_
  refine .seq ?_
  refine run_reg ?_
  refine e_end ?_
  refine g_v1 (t := 1) (u := (.ref (.bx 1) 0 [] (.agg [(.int .i64 a_1.1), (Enc.enc (a_1.2 : List (Int × Int)))]))) (.ref (.bx 1) 0 [0] (.int .i64 a_1.1)) h1 rfl rfl ?_
  refine g_v1 (t := 4) (u := (.ref (.bx 1) 0 [0] (.int .i64 a_1.1))) (.int .i64 a_1.1) rfl rfl rfl ?_
  refine g_v1 (t := 3) (u := (.ref (.bx 3) 0 [] (.agg [(.int .i64 0), (.sl .nl (Enc.shp (Int × Int)) 0 [])]))) (.ref (.bx 3) 0 [0] (.int .i64 0)) h3 rfl rfl ?_
  refine g_store (.int .i64 a_1.1) (rd_of rfl rfl) (rd_of rfl rfl) (by refine ⟨by decide, by decide, rfl, rfl, rfl, ?_⟩; first | rfl | simp [V.toks, V.tokss, Enc.toks_enc]) ?_
  refine g_end ?_
  refine e_end ?_
  refine renew [(1, (.ref (.bx 1) 0 [] (.agg [(.int .i64 a_1.1), (Enc.enc (a_1.2 : List (Int × Int)))]))), (2, (.ref (.bx 2) 0 [] (.agg [(.int .i64 0), (.sl .nl (Enc.shp (Int × Int)) 0 [])]))), (3, (.ref (.bx 3) 0 [] (.agg [(.int .i64 a_1.1), (.sl .nl (Enc.shp (Int × Int)) 0 [])])))] ⟨(keep_mut h1 (mut_ref_ne rfl rfl (mut_agg (muts_cons rfl (muts_cons (Enc.mut_enc _ _ _ _ (a_1.2 : List (Int × Int))) rfl))))), (keep_mut h2 (mut_ref_ne rfl rfl (mut_agg (muts_cons rfl (muts_cons rfl rfl))))), (keep_mut h3 rfl)⟩ ?_
  rintro s ⟨h1, h2, h3⟩
  refine .nsq ?_
  refine .seq ?_
  refine run_reg ?_
  refine e_end ?_
  refine g_v1 (t := 1) (u := (.ref (.bx 1) 0 [] (.agg [(.int .i64 a_1.1), (Enc.enc (a_1.2 : List (Int × Int)))]))) (.ref (.bx 1) 0 [1] (Enc.enc (a_1.2 : List (Int × Int)))) h1 rfl rfl ?_
  refine g_v1 (t := 7) (u := (.ref (.bx 1) 0 [1] (Enc.enc (a_1.2 : List (Int × Int))))) (Enc.enc (a_1.2 : List (Int × Int))) rfl rfl rfl ?_
  obtain ⟨r_2, E_r_2, h⟩ := bind_some h
  refine g_call (m := 0) (al := false) (r := (Enc.enc (r_2 : (List (Int × Int))))) [Enc.enc (a_1.2 : (List (Int × Int)))] (ta_cons (v := (Enc.enc (a_1.2 : List (Int × Int)))) rfl rfl (Enc.erase_enc (a_1.2 : (List (Int × Int)))) ta_nil) (H.c50 _ _ E_r_2) H.g50 rfl rfl rfl rfl ?_
  refine g_v1 (t := 3) (u := (.ref (.bx 3) 0 [] (.agg [(.int .i64 a_1.1), (.sl .nl (Enc.shp (Int × Int)) 0 [])]))) (.ref (.bx 3) 0 [1] (.sl .nl (Enc.shp (Int × Int)) 0 [])) h3 rfl rfl ?_
  refine g_store (Enc.enc (r_2 : List (Int × Int))) (rd_of rfl rfl) (rd_of rfl rfl) (by refine ⟨by decide, by decide, rfl, rfl, rfl, ?_⟩; first | rfl | simp [V.toks, V.tokss, Enc.toks_enc]) ?_
  refine g_end ?_
  refine e_end ?_
  refine renew [(2, (.ref (.bx 2) 0 [] (.agg [(.int .i64 0), (.sl .nl (Enc.shp (Int × Int)) 0 [])]))), (3, (.ref (.bx 3) 0 [] (.agg [(.int .i64 a_1.1), (Enc.enc (r_2 : List (Int × Int)))])))] ⟨(keep_mut h2 (mut_ref_ne rfl rfl (mut_agg (muts_cons rfl (muts_cons rfl rfl))))), (keep_mut h3 rfl)⟩ ?_
  rintro s ⟨h2, h3⟩
  refine .nsq ?_
  refine .seq ?_
  refine run_reg ?_
  refine e_end ?_
  refine g_v1 (t := 3) (u := (.ref (.bx 3) 0 [] (.agg [(.int .i64 a_1.1), (Enc.enc (r_2 : List (Int × Int)))]))) (.agg [(.int .i64 a_1.1), (Enc.enc (r_2 : List (Int × Int)))]) h3 rfl rfl ?_
  refine g_store (.agg [(.int .i64 a_1.1), (Enc.enc (r_2 : List (Int × Int)))]) (rd_of h2 rfl) (rd_of rfl rfl) (by refine ⟨by decide, by decide, rfl, rfl, rfl, ?_⟩; first | rfl | simp [V.toks, V.tokss, Enc.toks_enc]) ?_
  refine g_end ?_
  refine e_end ?_
  refine renew [(2, (.ref (.bx 2) 0 [] (.agg [(.int .i64 a_1.1), (Enc.enc (r_2 : List (Int × Int)))])))] (keep_mut h2 rfl) ?_
  rintro s h2
  refine .nsq ?_
  refine .ret ?_
  have hr := Option.some.inj h
  subst hr
  exact rrA (res_cell h2 (by kernel_rfl)) (fin_ret1 (fin_enc (x := ((a_1.1, r_2) : (Int × (List (Int × Int)))))))
end
def e17 (F : Nat) : Ent := ⟨17, da (fun (x : ((Int × (List (Int × Int))) × Unit)) => w_toGraph F x.1) (fun (r : (Int × (List (Int × Int)))) => (Enc.enc (r : (Int × (List (Int × Int)))))), 0, true, selF []⟩
theorem p17 {F : Nat} {x0 : (Int × (List (Int × Int)))} {r : (Int × (List (Int × Int)))} (h : w_toGraph F x0 = some r) : (e17 F).den [Enc.enc x0] = some (Enc.enc (r : (Int × (List (Int × Int))))) := da_put (f := fun (x : ((Int × (List (Int × Int))) × Unit)) => w_toGraph F x.1) (t := fun (r : (Int × (List (Int × Int)))) => (Enc.enc (r : (Int × (List (Int × Int)))))) (x0, ()) h
theorem o17 {D : Den} {σ : Sig} {F : Nat} (hF : Fits2 Try.prog D σ) (H : H17 D σ F) : (e17 F).Ok Try.prog := by
  refine ok_of (f := 17) (show unk 17 = 17 from rfl) (fun args r h => ?_) ⟨Try.f17, Try.func17, rfl, rfl⟩
  obtain ⟨⟨x0, _⟩, y, rfl, hy, rfl⟩ := da_open h
  exact contract_run hF (by kernel_rfl) Try.func17 rfl c17 (show 1 ≤ Try.f17.ntmps by decide) (t17 H x0 _ rfl hy)
/- loop.example/g01109/spec.l1In -/
def A95_1 : AC := (AC.seq (AC.reg [] [(I.mk (some 7) none false (X.v (A.mov (O.t 0)))), (I.mk (some 8) none false (X.v (A.mov (O.t 1)))), (I.mk (some 9) none false (X.v (A.bin BinOp.geq (O.t 7) (O.t 8)))), (I.mk (some 10) none false (X.v (A.mov (O.t 9)))), (I.mk (some 11) (some (10, true)) false (X.v (A.mov (O.t 0)))), (I.mk (some 12) (some (10, true)) false (X.v (A.mov (O.t 2)))), (I.mk (some 13) (some (10, true)) false (X.v (A.bin BinOp.leq (O.t 11) (O.t 12)))), (I.mk (some 14) none false (X.v (A.pick (O.t 10) (O.t 13) (O.k (V.bool false))))), (I.mk (some 6) none false (X.v (A.mov (O.t 14))))] []) AC.ret)
def A95 : AC := (AC.seq (AC.reg [] [(I.mk (some 6) none false (X.v (A.mov (O.k (V.bool false)))))] []) A95_1)
def an95 : List An := []
theorem c95 : cC Try.prog Try.f95.ntmps an95 (Try.f95.body.getD .skip) = some A95 := by kernel_rfl
structure H95 (D : Den) (σ : Sig) (F : Nat) : Prop where
  mk ::
abbrev R95 (r : Bool) : (Nat → V) → Prop := RR Try.prog [.tmp 6] 0 false (Enc.enc (r : Bool))
section
variable {D : Den} {σ : Sig} {F : Nat} {r : Bool}
def s_l1In (F : Nat) (x_1 : Int) (a_2 : Int) (b_3 : Int) : Option Bool :=
  bif decide (x_1 ≥ a_2) then
    some (decide (x_1 ≤ b_3))
  else
    some false
theorem t95 (H : H95 D σ F) (x_1 : Int) (a_2 : Int) (b_3 : Int) (s : Nat → V) (hs : Facts [(0, (.int .i64 x_1)), (1, (.int .i64 a_2)), (2, (.int .i64 b_3))] s) (h : s_l1In F x_1 a_2 b_3 = some r) : Run D σ (R95 r) (.run A95 []) s := by
  unfold s_l1In at h
  obtain ⟨h0, h1, h2⟩ := hs
  refine .seq ?_
  refine run_reg ?_
  refine e_end ?_
  refine g_v0 (.bool false) rfl rfl ?_
  refine g_end ?_
  refine e_end ?_
  refine renew [(0, (.int .i64 x_1)), (1, (.int .i64 a_2)), (2, (.int .i64 b_3)), (6, (.bool false))] ⟨h0, h1, h2, rfl⟩ ?_
  rintro s ⟨h0, h1, h2, h6⟩
  refine .nsq ?_
  refine .seq ?_
  refine run_reg ?_
  refine e_end ?_
  refine g_v1 (t := 0) (u := (.int .i64 x_1)) (.int .i64 x_1) h0 rfl rfl ?_
  refine g_v1 (t := 1) (u := (.int .i64 a_2)) (.int .i64 a_2) h1 rfl rfl ?_
  refine g_v2 (t1 := 7) (t2 := 8) (u1 := (.int .i64 x_1)) (u2 := (.int .i64 a_2)) (.bool (decide (x_1 ≥ a_2))) rfl rfl rfl rfl ?_
  refine g_v1 (t := 9) (u := (.bool (decide (x_1 ≥ a_2)))) (.bool (decide (x_1 ≥ a_2))) rfl rfl rfl ?_
  refine split_on (c := decide (x_1 ≥ a_2)) h (fun hg4 h => ?_) (fun hg4 h => ?_)
  · refine g_yes (Eq.trans (b := .bool (decide (x_1 ≥ a_2))) rfl (congrArg V.bool hg4)) (g_v1 (t := 0) (u := (.int .i64 x_1)) (.int .i64 x_1) h0 rfl rfl ?_)
    refine g_yes (Eq.trans (b := .bool (decide (x_1 ≥ a_2))) rfl (congrArg V.bool hg4)) (g_v1 (t := 2) (u := (.int .i64 b_3)) (.int .i64 b_3) h2 rfl rfl ?_)
    refine g_yes (Eq.trans (b := .bool (decide (x_1 ≥ a_2))) rfl (congrArg V.bool hg4)) (g_v2 (t1 := 11) (t2 := 12) (u1 := (.int .i64 x_1)) (u2 := (.int .i64 b_3)) (.bool (decide (x_1 ≤ b_3))) rfl rfl rfl rfl ?_)
    refine g_v2 (t1 := 10) (t2 := 13) (u1 := (.bool true)) (u2 := (.bool (decide (x_1 ≤ b_3)))) (.bool (decide (x_1 ≤ b_3))) (Eq.trans (b := .bool (decide (x_1 ≥ a_2))) rfl (congrArg V.bool hg4)) rfl rfl rfl ?_
    refine g_v1 (t := 14) (u := (.bool (decide (x_1 ≤ b_3)))) (.bool (decide (x_1 ≤ b_3))) rfl rfl rfl ?_
    refine g_end ?_
    refine e_end ?_
    refine renew [(6, (.bool (decide (x_1 ≤ b_3))))] rfl ?_
    rintro s h6
    refine .nsq ?_
    refine .ret ?_
    have hr := Option.some.inj h
    subst hr
    exact rrA (res_tmp h6) rfl
  · refine g_no (Eq.trans (b := .bool (decide (x_1 ≥ a_2))) rfl (congrArg V.bool hg4)) ?_
    refine g_no (Eq.trans (b := .bool (decide (x_1 ≥ a_2))) rfl (congrArg V.bool hg4)) ?_
    refine g_no (Eq.trans (b := .bool (decide (x_1 ≥ a_2))) rfl (congrArg V.bool hg4)) ?_
    refine g_v2 (t1 := 10) (t2 := 13) (u1 := (.bool false)) (u2 := (.tup [])) (.bool false) (Eq.trans (b := .bool (decide (x_1 ≥ a_2))) rfl (congrArg V.bool hg4)) rfl rfl rfl ?_
    refine g_v1 (t := 14) (u := (.bool false)) (.bool false) rfl rfl rfl ?_
    refine g_end ?_
    refine e_end ?_
    refine renew [(6, (.bool false))] rfl ?_
    rintro s h6
    refine .nsq ?_
    refine .ret ?_
    have hr := Option.some.inj h
    subst hr
    exact rrA (res_tmp h6) rfl
end
def e95 (F : Nat) : Ent := ⟨95, da (fun (x : (Int × Int × Int × Unit)) => s_l1In F x.1 x.2.1 x.2.2.1) (fun (r : Bool) => (Enc.enc (r : Bool))), 0, false, selF []⟩
theorem p95 {F : Nat} {x0 : Int} {x1 : Int} {x2 : Int} {r : Bool} (h : s_l1In F x0 x1 x2 = some r) : (e95 F).den [Enc.enc x0, Enc.enc x1, Enc.enc x2] = some (Enc.enc (r : Bool)) := da_put (f := fun (x : (Int × Int × Int × Unit)) => s_l1In F x.1 x.2.1 x.2.2.1) (t := fun (r : Bool) => (Enc.enc (r : Bool))) (x0, x1, x2, ()) h
theorem o95 {D : Den} {σ : Sig} {F : Nat} (hF : Fits2 Try.prog D σ) (H : H95 D σ F) : (e95 F).Ok Try.prog := by
  refine ok_of (f := 95) (show unk 95 = 95 from rfl) (fun args r h => ?_) ⟨Try.f95, Try.func95, rfl, rfl⟩
  obtain ⟨⟨x0, x1, x2, _⟩, y, rfl, hy, rfl⟩ := da_open h
  exact contract_run hF (by kernel_rfl) Try.func95 rfl c95 (show 3 ≤ Try.f95.ntmps by decide) (t95 H x0 x1 x2 _ ⟨rfl, rfl, rfl⟩ hy)
/- loop.example/g01109/spec.l2Before -/
def A96_1 : AC := (AC.seq (AC.reg [] [(I.mk (some 5) none false (X.v (A.idxA (O.t 2) (O.k (V.int IntKind.i64 (Int.ofNat 0))) 2 1))), (I.mk (some 6) none false (X.v (A.load Sh.s (O.t 5)))), (I.mk (some 7) none false (X.v (A.idxA (O.t 3) (O.k (V.int IntKind.i64 (Int.ofNat 0))) 2 1))), (I.mk (some 8) none false (X.v (A.load Sh.s (O.t 7)))), (I.mk (some 9) none false (X.v (A.bin BinOp.lss (O.t 6) (O.t 8)))), (I.mk (some 10) none false (X.v (A.mov (O.t 9)))), (I.mk (some 11) (some (10, false)) false (X.v (A.idxA (O.t 2) (O.k (V.int IntKind.i64 (Int.ofNat 0))) 2 1))), (I.mk (some 12) (some (10, false)) false (X.v (A.load Sh.s (O.t 11)))), (I.mk (some 13) (some (10, false)) false (X.v (A.idxA (O.t 3) (O.k (V.int IntKind.i64 (Int.ofNat 0))) 2 1))), (I.mk (some 14) (some (10, false)) false (X.v (A.load Sh.s (O.t 13)))), (I.mk (some 15) (some (10, false)) false (X.v (A.bin BinOp.eql (O.t 12) (O.t 14)))), (I.mk (some 16) (some (10, false)) false (X.v (A.mov (O.t 15)))), (I.mk (some 17) (some (16, true)) false (X.v (A.idxA (O.t 2) (O.k (V.int IntKind.i64 (Int.ofNat 1))) 2 1))), (I.mk (some 18) (some (16, true)) false (X.v (A.load Sh.s (O.t 17)))), (I.mk (some 19) (some (16, true)) false (X.v (A.idxA (O.t 3) (O.k (V.int IntKind.i64 (Int.ofNat 1))) 2 1))), (I.mk (some 20) (some (16, true)) false (X.v (A.load Sh.s (O.t 19)))), (I.mk (some 21) (some (16, true)) false (X.v (A.bin BinOp.lss (O.t 18) (O.t 20)))), (I.mk (some 22) (some (10, false)) false (X.v (A.pick (O.t 16) (O.t 21) (O.k (V.bool false))))), (I.mk (some 23) none false (X.v (A.pick (O.t 10) (O.k (V.bool true)) (O.t 22)))), (I.mk (some 4) none false (X.v (A.mov (O.t 23))))] []) AC.ret)
def A96 : AC := (AC.seq (AC.reg [.clr [2, 3]] [(I.mk (some 2) none false (X.box (O.t 0))), (I.mk (some 3) none false (X.box (O.t 1))), (I.mk (some 4) none false (X.v (A.mov (O.k (V.bool false)))))] []) A96_1)
def an96 : List An := [{ id := 0, pre := [.clr [2, 3]], ep := [], lin := [], sp := [] }]
theorem c96 : cC Try.prog Try.f96.ntmps an96 (Try.f96.body.getD .skip) = some A96 := by kernel_rfl
structure H96 (D : Den) (σ : Sig) (F : Nat) : Prop where
  mk ::
abbrev R96 (r : Bool) : (Nat → V) → Prop := RR Try.prog [.tmp 4] 0 false (Enc.enc (r : Bool))
section
variable {D : Den} {σ : Sig} {F : Nat} {r : Bool}
def s_l2Before (F : Nat) (a_1 : (Int × Int)) (b_2 : (Int × Int)) : Option Bool :=
  bif decide (a_1.1 < b_2.1) then
    some true
  else
    bif (a_1.1 == b_2.1) then
      some (decide (a_1.2 < b_2.2))
    else
      some false
theorem t96 (H : H96 D σ F) (a_1 : (Int × Int)) (b_2 : (Int × Int)) (s : Nat → V) (hs : Facts [(0, (.agg [(.int .i64 a_1.1), (.int .i64 a_1.2)])), (1, (.agg [(.int .i64 b_2.1), (.int .i64 b_2.2)]))] s) (h : s_l2Before F a_1 b_2 = some r) : Run D σ (R96 r) (.run A96 []) s := by
  unfold s_l2Before at h
  obtain ⟨h0, h1⟩ := hs
  refine .seq ?_
  refine run_reg ?_
  refine e_clr ?_
  refine e_end ?_
  refine g_box (.agg [(.int .i64 a_1.1), (.int .i64 a_1.2)]) (rd_of (keep_clear (s := s) (pk := [2, 3]) h0 rfl (map_agg (maps_cons rfl (maps_cons rfl maps_nil)))) rfl) (gone_clear (s := s) (pk := [2, 3]) (t := 2) rfl) rfl ?_
  refine g_box (.agg [(.int .i64 b_2.1), (.int .i64 b_2.2)]) (rd_of (keep_clear (s := s) (pk := [2, 3]) h1 rfl (map_agg (maps_cons rfl (maps_cons rfl maps_nil)))) rfl) (gone_clear (s := s) (pk := [2, 3]) (t := 3) rfl) rfl ?_
  refine g_v0 (.bool false) rfl rfl ?_
  refine g_end ?_
  refine e_end ?_
  refine renew [(2, (.ref (.bx 2) 0 [] (.agg [(.int .i64 a_1.1), (.int .i64 a_1.2)]))), (3, (.ref (.bx 3) 0 [] (.agg [(.int .i64 b_2.1), (.int .i64 b_2.2)]))), (4, (.bool false))] ⟨rfl, rfl, rfl⟩ ?_
  rintro s ⟨h2, h3, h4⟩
  refine .nsq ?_
  refine .seq ?_
  refine run_reg ?_
  refine e_end ?_
  refine g_v1 (t := 2) (u := (.ref (.bx 2) 0 [] (.agg [(.int .i64 a_1.1), (.int .i64 a_1.2)]))) (.ref (.bx 2) 0 [0] (.int .i64 a_1.1)) h2 rfl rfl ?_
  refine g_v1 (t := 5) (u := (.ref (.bx 2) 0 [0] (.int .i64 a_1.1))) (.int .i64 a_1.1) rfl rfl rfl ?_
  refine g_v1 (t := 3) (u := (.ref (.bx 3) 0 [] (.agg [(.int .i64 b_2.1), (.int .i64 b_2.2)]))) (.ref (.bx 3) 0 [0] (.int .i64 b_2.1)) h3 rfl rfl ?_
  refine g_v1 (t := 7) (u := (.ref (.bx 3) 0 [0] (.int .i64 b_2.1))) (.int .i64 b_2.1) rfl rfl rfl ?_
  refine g_v2 (t1 := 6) (t2 := 8) (u1 := (.int .i64 a_1.1)) (u2 := (.int .i64 b_2.1)) (.bool (decide (a_1.1 < b_2.1))) rfl rfl rfl rfl ?_
  refine g_v1 (t := 9) (u := (.bool (decide (a_1.1 < b_2.1)))) (.bool (decide (a_1.1 < b_2.1))) rfl rfl rfl ?_
  refine split_on (c := decide (a_1.1 < b_2.1)) h (fun hg6 h => ?_) (fun hg6 h => ?_)
  · refine g_no (Eq.trans (b := .bool (decide (a_1.1 < b_2.1))) rfl (congrArg V.bool hg6)) ?_
    refine g_no (Eq.trans (b := .bool (decide (a_1.1 < b_2.1))) rfl (congrArg V.bool hg6)) ?_
    refine g_no (Eq.trans (b := .bool (decide (a_1.1 < b_2.1))) rfl (congrArg V.bool hg6)) ?_
    refine g_no (Eq.trans (b := .bool (decide (a_1.1 < b_2.1))) rfl (congrArg V.bool hg6)) ?_
    refine g_no (Eq.trans (b := .bool (decide (a_1.1 < b_2.1))) rfl (congrArg V.bool hg6)) ?_
    refine g_no (Eq.trans (b := .bool (decide (a_1.1 < b_2.1))) rfl (congrArg V.bool hg6)) ?_
    refine g_skip rfl ?_
    refine g_skip rfl ?_
    refine g_skip rfl ?_
    refine g_skip rfl ?_
    refine g_skip rfl ?_
    refine g_no (Eq.trans (b := .bool (decide (a_1.1 < b_2.1))) rfl (congrArg V.bool hg6)) ?_
    refine g_v2 (t1 := 10) (t2 := 22) (u1 := (.bool true)) (u2 := (.tup [])) (.bool true) (Eq.trans (b := .bool (decide (a_1.1 < b_2.1))) rfl (congrArg V.bool hg6)) rfl rfl rfl ?_
    refine g_v1 (t := 23) (u := (.bool true)) (.bool true) rfl rfl rfl ?_
    refine g_end ?_
    refine e_end ?_
    refine renew [(4, (.bool true))] rfl ?_
    rintro s h4
    refine .nsq ?_
    refine .ret ?_
    have hr := Option.some.inj h
    subst hr
    exact rrA (res_tmp h4) rfl
  · refine g_yes (Eq.trans (b := .bool (decide (a_1.1 < b_2.1))) rfl (congrArg V.bool hg6)) (g_v1 (t := 2) (u := (.ref (.bx 2) 0 [] (.agg [(.int .i64 a_1.1), (.int .i64 a_1.2)]))) (.ref (.bx 2) 0 [0] (.int .i64 a_1.1)) h2 rfl rfl ?_)
    refine g_yes (Eq.trans (b := .bool (decide (a_1.1 < b_2.1))) rfl (congrArg V.bool hg6)) (g_v1 (t := 11) (u := (.ref (.bx 2) 0 [0] (.int .i64 a_1.1))) (.int .i64 a_1.1) rfl rfl rfl ?_)
    refine g_yes (Eq.trans (b := .bool (decide (a_1.1 < b_2.1))) rfl (congrArg V.bool hg6)) (g_v1 (t := 3) (u := (.ref (.bx 3) 0 [] (.agg [(.int .i64 b_2.1), (.int .i64 b_2.2)]))) (.ref (.bx 3) 0 [0] (.int .i64 b_2.1)) h3 rfl rfl ?_)
    refine g_yes (Eq.trans (b := .bool (decide (a_1.1 < b_2.1))) rfl (congrArg V.bool hg6)) (g_v1 (t := 13) (u := (.ref (.bx 3) 0 [0] (.int .i64 b_2.1))) (.int .i64 b_2.1) rfl rfl rfl ?_)
    refine g_yes (Eq.trans (b := .bool (decide (a_1.1 < b_2.1))) rfl (congrArg V.bool hg6)) (g_v2 (t1 := 12) (t2 := 14) (u1 := (.int .i64 a_1.1)) (u2 := (.int .i64 b_2.1)) (.bool (a_1.1 == b_2.1)) rfl rfl rfl rfl ?_)
    refine g_yes (Eq.trans (b := .bool (decide (a_1.1 < b_2.1))) rfl (congrArg V.bool hg6)) (g_v1 (t := 15) (u := (.bool (a_1.1 == b_2.1))) (.bool (a_1.1 == b_2.1)) rfl rfl rfl ?_)
    refine split_on (c := (a_1.1 == b_2.1)) h (fun hg12 h => ?_) (fun hg12 h => ?_)
    · refine g_yes (Eq.trans (b := .bool (a_1.1 == b_2.1)) rfl (congrArg V.bool hg12)) (g_v1 (t := 2) (u := (.ref (.bx 2) 0 [] (.agg [(.int .i64 a_1.1), (.int .i64 a_1.2)]))) (.ref (.bx 2) 0 [1] (.int .i64 a_1.2)) h2 rfl rfl ?_)
      refine g_yes (Eq.trans (b := .bool (a_1.1 == b_2.1)) rfl (congrArg V.bool hg12)) (g_v1 (t := 17) (u := (.ref (.bx 2) 0 [1] (.int .i64 a_1.2))) (.int .i64 a_1.2) rfl rfl rfl ?_)
      refine g_yes (Eq.trans (b := .bool (a_1.1 == b_2.1)) rfl (congrArg V.bool hg12)) (g_v1 (t := 3) (u := (.ref (.bx 3) 0 [] (.agg [(.int .i64 b_2.1), (.int .i64 b_2.2)]))) (.ref (.bx 3) 0 [1] (.int .i64 b_2.2)) h3 rfl rfl ?_)
      refine g_yes (Eq.trans (b := .bool (a_1.1 == b_2.1)) rfl (congrArg V.bool hg12)) (g_v1 (t := 19) (u := (.ref (.bx 3) 0 [1] (.int .i64 b_2.2))) (.int .i64 b_2.2) rfl rfl rfl ?_)
      refine g_yes (Eq.trans (b := .bool (a_1.1 == b_2.1)) rfl (congrArg V.bool hg12)) (g_v2 (t1 := 18) (t2 := 20) (u1 := (.int .i64 a_1.2)) (u2 := (.int .i64 b_2.2)) (.bool (decide (a_1.2 < b_2.2))) rfl rfl rfl rfl ?_)
      refine g_yes (Eq.trans (b := .bool (decide (a_1.1 < b_2.1))) rfl (congrArg V.bool hg6)) (g_v2 (t1 := 16) (t2 := 21) (u1 := (.bool true)) (u2 := (.bool (decide (a_1.2 < b_2.2)))) (.bool (decide (a_1.2 < b_2.2))) (Eq.trans (b := .bool (a_1.1 == b_2.1)) rfl (congrArg V.bool hg12)) rfl rfl rfl ?_)
      refine g_v2 (t1 := 10) (t2 := 22) (u1 := (.bool false)) (u2 := (.bool (decide (a_1.2 < b_2.2)))) (.bool (decide (a_1.2 < b_2.2))) (Eq.trans (b := .bool (decide (a_1.1 < b_2.1))) rfl (congrArg V.bool hg6)) rfl rfl rfl ?_
      refine g_v1 (t := 23) (u := (.bool (decide (a_1.2 < b_2.2)))) (.bool (decide (a_1.2 < b_2.2))) rfl rfl rfl ?_
      refine g_end ?_
      refine e_end ?_
      refine renew [(4, (.bool (decide (a_1.2 < b_2.2))))] rfl ?_
      rintro s h4
      refine .nsq ?_
      refine .ret ?_
      have hr := Option.some.inj h
      subst hr
      exact rrA (res_tmp h4) rfl
    · refine g_no (Eq.trans (b := .bool (a_1.1 == b_2.1)) rfl (congrArg V.bool hg12)) ?_
      refine g_no (Eq.trans (b := .bool (a_1.1 == b_2.1)) rfl (congrArg V.bool hg12)) ?_
      refine g_no (Eq.trans (b := .bool (a_1.1 == b_2.1)) rfl (congrArg V.bool hg12)) ?_
      refine g_no (Eq.trans (b := .bool (a_1.1 == b_2.1)) rfl (congrArg V.bool hg12)) ?_
      refine g_no (Eq.trans (b := .bool (a_1.1 == b_2.1)) rfl (congrArg V.bool hg12)) ?_
      refine g_yes (Eq.trans (b := .bool (decide (a_1.1 < b_2.1))) rfl (congrArg V.bool hg6)) (g_v2 (t1 := 16) (t2 := 21) (u1 := (.bool false)) (u2 := (.tup [])) (.bool false) (Eq.trans (b := .bool (a_1.1 == b_2.1)) rfl (congrArg V.bool hg12)) rfl rfl rfl ?_)
      refine g_v2 (t1 := 10) (t2 := 22) (u1 := (.bool false)) (u2 := (.bool false)) (.bool false) (Eq.trans (b := .bool (decide (a_1.1 < b_2.1))) rfl (congrArg V.bool hg6)) rfl rfl rfl ?_
      refine g_v1 (t := 23) (u := (.bool false)) (.bool false) rfl rfl rfl ?_
      refine g_end ?_
      refine e_end ?_
      refine renew [(4, (.bool false))] rfl ?_
      rintro s h4
      refine .nsq ?_
      refine .ret ?_
      have hr := Option.some.inj h
      subst hr
      exact rrA (res_tmp h4) rfl
end
def e96 (F : Nat) : Ent := ⟨96, da (fun (x : ((Int × Int) × (Int × Int) × Unit)) => s_l2Before F x.1 x.2.1) (fun (r : Bool) => (Enc.enc (r : Bool))), 0, false, selF []⟩
theorem p96 {F : Nat} {x0 : (Int × Int)} {x1 : (Int × Int)} {r : Bool} (h : s_l2Before F x0 x1 = some r) : (e96 F).den [Enc.enc x0, Enc.enc x1] = some (Enc.enc (r : Bool)) := da_put (f := fun (x : ((Int × Int) × (Int × Int) × Unit)) => s_l2Before F x.1 x.2.1) (t := fun (r : Bool) => (Enc.enc (r : Bool))) (x0, x1, ()) h
theorem o96 {D : Den} {σ : Sig} {F : Nat} (hF : Fits2 Try.prog D σ) (H : H96 D σ F) : (e96 F).Ok Try.prog := by
  refine ok_of (f := 96) (show unk 96 = 96 from rfl) (fun args r h => ?_) ⟨Try.f96, Try.func96, rfl, rfl⟩
  obtain ⟨⟨x0, x1, _⟩, y, rfl, hy, rfl⟩ := da_open h
  exact contract_run hF (by kernel_rfl) Try.func96 rfl c96 (show 2 ≤ Try.f96.ntmps by decide) (t96 H x0 x1 _ ⟨rfl, rfl⟩ hy)
/- loop.example/g01109/spec.l2Good -/
def A48_2 : AC := (AC.cond (O.t 9) AC.skip (AC.exit 0))
def A48_5 : AC := (AC.cond (O.t 54) (AC.seq (AC.reg [] [(I.mk (some 2) none false (X.v (A.mov (O.k (V.bool false)))))] []) AC.ret) AC.skip)
def A48_4 : AC := (AC.seq (AC.reg [] [(I.mk (some 17) none false (X.v (A.idxA (O.t 4) (O.k (V.int IntKind.i64 (Int.ofNat 0))) 2 1))), (I.mk (some 18) none false (X.v (A.load Sh.s (O.t 17)))), (I.mk (some 19) none false (X.v (A.fld (O.t 1) 0 0))), (I.mk (some 20) none false (X.v (A.load Sh.s (O.t 19)))), (I.mk (some 21) none false (X.v (A.bin BinOp.sub (O.t 20) (O.k (V.int IntKind.i64 (Int.ofNat 1)))))), (I.mk (some 22) none false (X.call (O.k (V.fn 95 [] [])) [(O.t 18), (O.k (V.int IntKind.i64 (Int.ofNat 0))), (O.t 21)])), (I.mk (some 23) none false (X.v (A.un UnOp.not (O.t 22)))), (I.mk (some 24) none false (X.v (A.mov (O.t 23)))), (I.mk (some 25) (some (24, false)) false (X.v (A.idxA (O.t 4) (O.k (V.int IntKind.i64 (Int.ofNat 1))) 2 1))), (I.mk (some 26) (some (24, false)) false (X.v (A.load Sh.s (O.t 25)))), (I.mk (some 27) (some (24, false)) false (X.v (A.fld (O.t 1) 0 0))), (I.mk (some 28) (some (24, false)) false (X.v (A.load Sh.s (O.t 27)))), (I.mk (some 29) (some (24, false)) false (X.v (A.bin BinOp.sub (O.t 28) (O.k (V.int IntKind.i64 (Int.ofNat 1)))))), (I.mk (some 30) (some (24, false)) false (X.call (O.k (V.fn 95 [] [])) [(O.t 26), (O.k (V.int IntKind.i64 (Int.ofNat 0))), (O.t 29)])), (I.mk (some 31) (some (24, false)) false (X.v (A.un UnOp.not (O.t 30)))), (I.mk (some 32) none false (X.v (A.pick (O.t 24) (O.k (V.bool true)) (O.t 31)))), (I.mk (some 33) none false (X.v (A.mov (O.t 32)))), (I.mk (some 34) (some (33, false)) false (X.v (A.idxA (O.t 4) (O.k (V.int IntKind.i64 (Int.ofNat 0))) 2 1))), (I.mk (some 35) (some (33, false)) false (X.v (A.load Sh.s (O.t 34)))), (I.mk (some 36) (some (33, false)) false (X.v (A.idxA (O.t 4) (O.k (V.int IntKind.i64 (Int.ofNat 1))) 2 1))), (I.mk (some 37) (some (33, false)) false (X.v (A.load Sh.s (O.t 36)))), (I.mk (some 38) (some (33, false)) false (X.v (A.bin BinOp.geq (O.t 35) (O.t 37)))), (I.mk (some 39) none false (X.v (A.pick (O.t 33) (O.k (V.bool true)) (O.t 38)))), (I.mk (some 40) none false (X.v (A.mov (O.t 39)))), (I.mk (some 41) (some (40, false)) false (X.v (A.mov (O.t 3)))), (I.mk (some 42) (some (40, false)) false (X.v (A.bin BinOp.gtr (O.t 41) (O.k (V.int IntKind.i64 (Int.ofNat 0)))))), (I.mk (some 43) (some (40, false)) false (X.v (A.mov (O.t 42)))), (I.mk (some 44) (some (43, true)) false (X.v (A.fld (O.t 1) 1 1))), (I.mk (some 45) (some (43, true)) false (X.v (A.load Sh.p (O.t 44)))), (I.mk (some 46) (some (43, true)) false (X.v (A.mov (O.t 3)))), (I.mk (some 47) (some (43, true)) false (X.v (A.bin BinOp.sub (O.t 46) (O.k (V.int IntKind.i64 (Int.ofNat 1)))))), (I.mk (some 48) (some (43, true)) false (X.v (A.idx (O.t 45) (O.t 47) 2))), (I.mk (some 49) (some (43, true)) false (X.v (A.load (Sh.ag [Sh.s, Sh.s]) (O.t 48)))), (I.mk (some 50) (some (43, true)) false (X.v (A.load (Sh.ag [Sh.s, Sh.s]) (O.t 4)))), (I.mk (some 51) (some (43, true)) false (X.call (O.k (V.fn 96 [] [])) [(O.t 49), (O.t 50)])), (I.mk (some 52) (some (43, true)) false (X.v (A.un UnOp.not (O.t 51)))), (I.mk (some 53) (some (40, false)) false (X.v (A.pick (O.t 43) (O.t 52) (O.k (V.bool false))))), (I.mk (some 54) none false (X.v (A.pick (O.t 40) (O.k (V.bool true)) (O.t 53))))] []) A48_5)
def A48_6 : AC := (AC.reg [] [(I.mk (some 10) none false (X.v (A.mov (O.t 3)))), (I.mk (some 11) none false (X.v (A.bin BinOp.add (O.t 10) (O.k (V.int IntKind.i64 (Int.ofNat 1)))))), (I.mk (some 3) none false (X.v (A.mov (O.t 11))))] [])
def A48_3 : AC := (AC.seq (AC.block 1 (AC.seq (AC.reg [.clr [4]] [(I.mk (some 12) none false (X.v (A.fld (O.t 1) 1 1))), (I.mk (some 13) none false (X.v (A.load Sh.p (O.t 12)))), (I.mk (some 14) none false (X.v (A.mov (O.t 3)))), (I.mk (some 15) none false (X.v (A.idx (O.t 13) (O.t 14) 2))), (I.mk (some 16) none false (X.v (A.load (Sh.ag [Sh.s, Sh.s]) (O.t 15)))), (I.mk (some 4) none false (X.alloc (V.agg [(V.int IntKind.i64 (Int.ofNat 0)), (V.int IntKind.i64 (Int.ofNat 0))]))), (I.mk none none false (X.store (Sh.ag [Sh.s, Sh.s]) (O.t 4) (O.t 16)))] []) A48_4)) A48_6)
def A48_1 : AC := (AC.seq (AC.seq (AC.reg [] [(I.mk (some 5) none false (X.v (A.mov (O.t 3)))), (I.mk (some 6) none false (X.v (A.fld (O.t 1) 1 1))), (I.mk (some 7) none false (X.v (A.load Sh.p (O.t 6)))), (I.mk (some 8) none false (X.v (A.len (O.t 7)))), (I.mk (some 9) none false (X.v (A.bin BinOp.lss (O.t 5) (O.t 8))))] []) A48_2) A48_3)
def A48_7 : AC := (AC.seq (AC.reg [] [(I.mk (some 55) none false (X.v (A.fld (O.t 1) 0 0))), (I.mk (some 56) none false (X.v (A.load Sh.s (O.t 55)))), (I.mk (some 57) none false (X.call (O.k (V.fn 95 [] [])) [(O.t 56), (O.k (V.int IntKind.i64 (Int.ofNat 0))), (O.k (V.int IntKind.i64 (Int.ofNat 8)))])), (I.mk (some 2) none false (X.v (A.mov (O.t 57))))] []) AC.ret)
def A48_9 : AC := (AC.block 0 (AC.loop A48_1))
def A48_8 : AC := (AC.seq (AC.seq (AC.reg [] [(I.mk (some 3) none false (X.v (A.mov (O.k (V.int IntKind.i64 (Int.ofNat 0))))))] []) A48_9) A48_7)
def A48 : AC := (AC.seq (AC.reg [.clr [1]] [(I.mk (some 1) none false (X.box (O.t 0))), (I.mk (some 2) none false (X.v (A.mov (O.k (V.bool false)))))] []) A48_8)
def an48 : List An := [{ id := 0, pre := [.clr [1]], ep := [], lin := [], sp := [] }, { id := 4, pre := [.clr [4]], ep := [], lin := [], sp := [] }]
theorem c48 : cC Try.prog Try.f48.ntmps an48 (Try.f48.body.getD .skip) = some A48 := by kernel_rfl
structure H48 (D : Den) (σ : Sig) (F : Nat) : Prop where
  c95 : ∀ (x0 : Int) (x1 : Int) (x2 : Int) r, s_l1In F x0 x1 x2 = some r → D 95 [Enc.enc x0, Enc.enc x1, Enc.enc x2] = some (Enc.enc (r : Bool))
  g95 : σ 95 = some (0, false)
  c96 : ∀ (x0 : (Int × Int)) (x1 : (Int × Int)) r, s_l2Before F x0 x1 = some r → D 96 [Enc.enc x0, Enc.enc x1] = some (Enc.enc (r : Bool))
  g96 : σ 96 = some (0, false)
abbrev R48 (r : Bool) : (Nat → V) → Prop := RR Try.prog [.tmp 2] 0 false (Enc.enc (r : Bool))
section
variable {D : Den} {σ : Sig} {F : Nat} {r : Bool}
def s_l2Good_j1 (F : Nat) (g_1 : (Int × (List (Int × Int)))) (i_12 : Int) (c1 : Int → Option Bool) (t54_28 : Bool) : Option Bool :=
  bif t54_28 then
    some false
  else
    c1 (w64 (i_12 + 1))
theorem t_f48_j1 (H : H48 D σ F) (g_1 : (Int × (List (Int × Int)))) (i_12 : Int) (c1 : Int → Option Bool) (Hc1 : ∀ (i_12 : Int) (s : Nat → V), Facts [(1, (.ref (.bx 1) 0 [] (.agg [(.int .i64 g_1.1), (Enc.enc (g_1.2 : List (Int × Int)))]))), (2, (.bool false)), (3, (.int .i64 i_12))] s → c1 i_12 = some r → Run D σ (R48 r) (.run A48_1 [.lp A48_1, .bk 0, .sq A48_7]) s) (t54_28 : Bool) (s : Nat → V) (hs : Facts [(1, (.ref (.bx 1) 0 [] (.agg [(.int .i64 g_1.1), (Enc.enc (g_1.2 : List (Int × Int)))]))), (2, (.bool false)), (3, (.int .i64 i_12)), (54, (.bool t54_28))] s) (h : s_l2Good_j1 F g_1 i_12 c1 t54_28 = some r) : Run D σ (R48 r) (.nrm [.sq A48_5, .bk 1, .sq A48_6, .lp A48_1, .bk 0, .sq A48_7]) s := by
  unfold s_l2Good_j1 at h
  obtain ⟨h1, h2, h3, h54⟩ := hs
  refine .nsq ?_
  refine run_cond (t := t54_28) h54 h (fun h => ?_) (fun h => ?_)
  · refine .seq ?_
    refine run_reg ?_
    refine e_end ?_
    refine g_v0 (.bool false) rfl rfl ?_
    refine g_end ?_
    refine e_end ?_
    refine renew [(1, (.ref (.bx 1) 0 [] (.agg [(.int .i64 g_1.1), (Enc.enc (g_1.2 : List (Int × Int)))]))), (2, (.bool false)), (3, (.int .i64 i_12))] ⟨h1, rfl, h3⟩ ?_
    rintro s ⟨h1, h2, h3⟩
    refine .nsq ?_
    refine .ret ?_
    have hr := Option.some.inj h
    subst hr
    exact rrA (res_tmp h2) rfl
  · refine .skip ?_
    refine .nbk ?_
    refine .nsq ?_
    refine run_reg ?_
    refine e_end ?_
    refine g_v1 (t := 3) (u := (.int .i64 i_12)) (.int .i64 i_12) h3 rfl rfl ?_
    refine g_v1 (t := 10) (u := (.int .i64 i_12)) (.int .i64 (w64 (i_12 + 1))) rfl rfl rfl ?_
    refine g_v1 (t := 11) (u := (.int .i64 (w64 (i_12 + 1)))) (.int .i64 (w64 (i_12 + 1))) rfl rfl rfl ?_
    refine g_end ?_
    refine e_end ?_
    refine renew [(1, (.ref (.bx 1) 0 [] (.agg [(.int .i64 g_1.1), (Enc.enc (g_1.2 : List (Int × Int)))]))), (2, (.bool false)), (3, (.int .i64 (w64 (i_12 + 1))))] ⟨h1, h2, rfl⟩ ?_
    rintro s ⟨h1, h2, h3⟩
    refine .nlp ?_
    exact Hc1 (w64 (i_12 + 1)) _ ⟨h1, h2, h3⟩ h
def s_l2Good_l1 (F : Nat) (g_1 : (Int × (List (Int × Int))))  : Nat → Int → Option Bool
  | 0, _ => none
  | k + 1, i_12 =>
    bif decide (i_12 < (g_1.2.length : Int)) then
      (idx g_1.2 i_12).bind fun e_23 =>
      (s_l1In F e_23.1 0 (w64 (g_1.1 - 1))).bind fun r_29 =>
      bif (!r_29) then
        s_l2Good_j1 F g_1 i_12 (s_l2Good_l1 F g_1 k) true
      else
        (s_l1In F e_23.2 0 (w64 (g_1.1 - 1))).bind fun r_30 =>
        bif (!r_30) then
          s_l2Good_j1 F g_1 i_12 (s_l2Good_l1 F g_1 k) true
        else
          bif decide (e_23.1 ≥ e_23.2) then
            s_l2Good_j1 F g_1 i_12 (s_l2Good_l1 F g_1 k) true
          else
            bif decide (i_12 > 0) then
              (idx g_1.2 (w64 (i_12 - 1))).bind fun e_31 =>
              (s_l2Before F e_31 e_23).bind fun r_32 =>
              s_l2Good_j1 F g_1 i_12 (s_l2Good_l1 F g_1 k) (!r_32)
            else
              s_l2Good_j1 F g_1 i_12 (s_l2Good_l1 F g_1 k) false
    else
      (s_l1In F g_1.1 0 8).bind fun r_33 =>
      some r_33
theorem t_f48_l1 (H : H48 D σ F) (g_1 : (Int × (List (Int × Int))))  : ∀ (k : Nat) (i_12 : Int) (s : Nat → V), Facts [(1, (.ref (.bx 1) 0 [] (.agg [(.int .i64 g_1.1), (Enc.enc (g_1.2 : List (Int × Int)))]))), (2, (.bool false)), (3, (.int .i64 i_12))] s → s_l2Good_l1 F g_1 k i_12 = some r → Run D σ (R48 r) (.run A48_1 [.lp A48_1, .bk 0, .sq A48_7]) s := by
  intro k
  induction k with
  | zero => intro i_12 s _ h; exact nomatch (h : (none : Option _) = some r)
  | succ k ih =>
    intro i_12 s hs h
    rw [s_l2Good_l1] at h
    obtain ⟨h1, h2, h3⟩ := hs
    refine .seq ?_
    refine .seq ?_
    refine run_reg ?_
    refine e_end ?_
    refine g_v1 (t := 3) (u := (.int .i64 i_12)) (.int .i64 i_12) h3 rfl rfl ?_
    refine g_v1 (t := 1) (u := (.ref (.bx 1) 0 [] (.agg [(.int .i64 g_1.1), (Enc.enc (g_1.2 : List (Int × Int)))]))) (.ref (.bx 1) 0 [1] (Enc.enc (g_1.2 : List (Int × Int)))) h1 rfl rfl ?_
    refine g_v1 (t := 6) (u := (.ref (.bx 1) 0 [1] (Enc.enc (g_1.2 : List (Int × Int))))) (Enc.enc (g_1.2 : List (Int × Int))) rfl rfl rfl ?_
    refine g_v (.int .i64 (g_1.2.length : Int)) (ev_len (xs := g_1.2) rfl) ?_
    refine g_v2 (t1 := 5) (t2 := 8) (u1 := (.int .i64 i_12)) (u2 := (.int .i64 (g_1.2.length : Int))) (.bool (decide (i_12 < (g_1.2.length : Int)))) rfl rfl rfl rfl ?_
    refine g_end ?_
    refine e_end ?_
    refine renew [(1, (.ref (.bx 1) 0 [] (.agg [(.int .i64 g_1.1), (Enc.enc (g_1.2 : List (Int × Int)))]))), (2, (.bool false)), (3, (.int .i64 i_12)), (9, (.bool (decide (i_12 < (g_1.2.length : Int)))))] ⟨h1, h2, h3, rfl⟩ ?_
    rintro s ⟨h1, h2, h3, h9⟩
    refine .nsq ?_
    refine run_cond (t := decide (i_12 < (g_1.2.length : Int))) h9 h (fun h => ?_) (fun h => ?_)
    · refine .skip ?_
      refine .nsq ?_
      refine .seq ?_
      refine .block ?_
      refine .seq ?_
      refine run_reg ?_
      refine e_clr ?_
      refine e_end ?_
      refine g_v1 (t := 1) (u := (.ref (.bx 1) 0 [] (.agg [(.int .i64 g_1.1), (Enc.enc (g_1.2 : List (Int × Int)))]))) (.ref (.bx 1) 0 [1] (Enc.enc (g_1.2 : List (Int × Int)))) (keep_clear (s := s) (pk := [4]) h1 rfl (map_bx rfl (map_agg (maps_cons rfl (maps_cons (Enc.map_enc _ (g_1.2 : List (Int × Int))) maps_nil))))) rfl rfl ?_
      refine g_v1 (t := 12) (u := (.ref (.bx 1) 0 [1] (Enc.enc (g_1.2 : List (Int × Int))))) (Enc.enc (g_1.2 : List (Int × Int))) rfl rfl rfl ?_
      refine g_v1 (t := 3) (u := (.int .i64 i_12)) (.int .i64 i_12) (keep_clear (s := s) (pk := [4]) h3 rfl rfl) rfl rfl ?_
      obtain ⟨e_23, E_e_23, h⟩ := bind_some h
      refine g_v (.ref .sh 0 [] (.agg [(.int .i64 e_23.1), (.int .i64 e_23.2)])) (ev_idx (t := .sh) (lo := 0) (xs := g_1.2) rfl rfl E_e_23 rfl rfl) ?_
      refine g_v1 (t := 15) (u := (.ref .sh 0 [] (.agg [(.int .i64 e_23.1), (.int .i64 e_23.2)]))) (.agg [(.int .i64 e_23.1), (.int .i64 e_23.2)]) rfl rfl rfl ?_
      refine g_alloc (gone_clear (s := s) (pk := [4]) (t := 4) rfl) ?_
      refine g_store (.agg [(.int .i64 e_23.1), (.int .i64 e_23.2)]) (rd_of rfl rfl) (rd_of rfl rfl) (by refine ⟨by decide, by decide, rfl, rfl, rfl, ?_⟩; first | rfl | simp [V.toks, V.tokss, Enc.toks_enc]) ?_
      refine g_end ?_
      refine e_end ?_
      refine renew [(1, (.ref (.bx 1) 0 [] (.agg [(.int .i64 g_1.1), (Enc.enc (g_1.2 : List (Int × Int)))]))), (2, (.bool false)), (3, (.int .i64 i_12)), (4, (.ref (.bx 4) 0 [] (.agg [(.int .i64 e_23.1), (.int .i64 e_23.2)])))] ⟨(keep_mut (keep_clear (s := s) (pk := [4]) h1 rfl (map_bx rfl (map_agg (maps_cons rfl (maps_cons (Enc.map_enc _ (g_1.2 : List (Int × Int))) maps_nil))))) (mut_ref_ne rfl rfl (mut_agg (muts_cons rfl (muts_cons (Enc.mut_enc _ _ _ _ (g_1.2 : List (Int × Int))) rfl))))), (keep_mut (keep_clear (s := s) (pk := [4]) h2 rfl rfl) rfl), (keep_mut (keep_clear (s := s) (pk := [4]) h3 rfl rfl) rfl), (keep_mut rfl rfl)⟩ ?_
      rintro s ⟨h1, h2, h3, h4⟩
      refine .nsq ?_
      refine .seq ?_
      refine run_reg ?_
      refine e_end ?_
      refine g_v1 (t := 4) (u := (.ref (.bx 4) 0 [] (.agg [(.int .i64 e_23.1), (.int .i64 e_23.2)]))) (.ref (.bx 4) 0 [0] (.int .i64 e_23.1)) h4 rfl rfl ?_
      refine g_v1 (t := 17) (u := (.ref (.bx 4) 0 [0] (.int .i64 e_23.1))) (.int .i64 e_23.1) rfl rfl rfl ?_
      refine g_v1 (t := 1) (u := (.ref (.bx 1) 0 [] (.agg [(.int .i64 g_1.1), (Enc.enc (g_1.2 : List (Int × Int)))]))) (.ref (.bx 1) 0 [0] (.int .i64 g_1.1)) h1 rfl rfl ?_
      refine g_v1 (t := 19) (u := (.ref (.bx 1) 0 [0] (.int .i64 g_1.1))) (.int .i64 g_1.1) rfl rfl rfl ?_
      refine g_v1 (t := 20) (u := (.int .i64 g_1.1)) (.int .i64 (w64 (g_1.1 - 1))) rfl rfl rfl ?_
      obtain ⟨r_29, E_r_29, h⟩ := bind_some h
      refine g_call (m := 0) (al := false) (r := (Enc.enc (r_29 : Bool))) [Enc.enc (e_23.1 : Int), Enc.enc (0 : Int), Enc.enc (w64 (g_1.1 - 1) : Int)] (ta_cons (v := (.int .i64 e_23.1)) rfl rfl rfl (ta_cons (v := (.int .i64 0)) rfl rfl rfl (ta_cons (v := (.int .i64 (w64 (g_1.1 - 1)))) rfl rfl rfl ta_nil))) (H.c95 _ _ _ _ E_r_29) H.g95 rfl rfl rfl rfl ?_
      refine g_v1 (t := 22) (u := (.bool r_29)) (.bool (!r_29)) rfl rfl rfl ?_
      refine g_v1 (t := 23) (u := (.bool (!r_29))) (.bool (!r_29)) rfl rfl rfl ?_
      refine split_on (c := (!r_29)) h (fun hg8 h => ?_) (fun hg8 h => ?_)
      · refine g_no (Eq.trans (b := .bool (!r_29)) rfl (congrArg V.bool hg8)) ?_
        refine g_no (Eq.trans (b := .bool (!r_29)) rfl (congrArg V.bool hg8)) ?_
        refine g_no (Eq.trans (b := .bool (!r_29)) rfl (congrArg V.bool hg8)) ?_
        refine g_no (Eq.trans (b := .bool (!r_29)) rfl (congrArg V.bool hg8)) ?_
        refine g_no (Eq.trans (b := .bool (!r_29)) rfl (congrArg V.bool hg8)) ?_
        refine g_no (Eq.trans (b := .bool (!r_29)) rfl (congrArg V.bool hg8)) ?_
        refine g_no (Eq.trans (b := .bool (!r_29)) rfl (congrArg V.bool hg8)) ?_
        refine g_v2 (t1 := 24) (t2 := 31) (u1 := (.bool true)) (u2 := (.tup [])) (.bool true) (Eq.trans (b := .bool (!r_29)) rfl (congrArg V.bool hg8)) rfl rfl rfl ?_
        refine g_v1 (t := 32) (u := (.bool true)) (.bool true) rfl rfl rfl ?_
        refine g_no rfl ?_
        refine g_no rfl ?_
        refine g_no rfl ?_
        refine g_no rfl ?_
        refine g_no rfl ?_
        refine g_v2 (t1 := 33) (t2 := 38) (u1 := (.bool true)) (u2 := (.tup [])) (.bool true) rfl rfl rfl rfl ?_
        refine g_v1 (t := 39) (u := (.bool true)) (.bool true) rfl rfl rfl ?_
        refine g_no rfl ?_
        refine g_no rfl ?_
        refine g_no rfl ?_
        refine g_skip rfl ?_
        refine g_skip rfl ?_
        refine g_skip rfl ?_
        refine g_skip rfl ?_
        refine g_skip rfl ?_
        refine g_skip rfl ?_
        refine g_skip rfl ?_
        refine g_skip rfl ?_
        refine g_skip rfl ?_
        refine g_no rfl ?_
        refine g_v2 (t1 := 40) (t2 := 53) (u1 := (.bool true)) (u2 := (.tup [])) (.bool true) rfl rfl rfl rfl ?_
        refine g_end ?_
        refine e_end ?_
        refine renew [(1, (.ref (.bx 1) 0 [] (.agg [(.int .i64 g_1.1), (Enc.enc (g_1.2 : List (Int × Int)))]))), (2, (.bool false)), (3, (.int .i64 i_12)), (54, (.bool true))] ⟨h1, h2, h3, rfl⟩ ?_
        rintro s ⟨h1, h2, h3, h54⟩
        exact t_f48_j1 H g_1 i_12 (s_l2Good_l1 F g_1 k) ih true _ ⟨h1, h2, h3, h54⟩ h
      · refine g_yes (Eq.trans (b := .bool (!r_29)) rfl (congrArg V.bool hg8)) (g_v1 (t := 4) (u := (.ref (.bx 4) 0 [] (.agg [(.int .i64 e_23.1), (.int .i64 e_23.2)]))) (.ref (.bx 4) 0 [1] (.int .i64 e_23.2)) h4 rfl rfl ?_)
        refine g_yes (Eq.trans (b := .bool (!r_29)) rfl (congrArg V.bool hg8)) (g_v1 (t := 25) (u := (.ref (.bx 4) 0 [1] (.int .i64 e_23.2))) (.int .i64 e_23.2) rfl rfl rfl ?_)
        refine g_yes (Eq.trans (b := .bool (!r_29)) rfl (congrArg V.bool hg8)) (g_v1 (t := 1) (u := (.ref (.bx 1) 0 [] (.agg [(.int .i64 g_1.1), (Enc.enc (g_1.2 : List (Int × Int)))]))) (.ref (.bx 1) 0 [0] (.int .i64 g_1.1)) h1 rfl rfl ?_)
        refine g_yes (Eq.trans (b := .bool (!r_29)) rfl (congrArg V.bool hg8)) (g_v1 (t := 27) (u := (.ref (.bx 1) 0 [0] (.int .i64 g_1.1))) (.int .i64 g_1.1) rfl rfl rfl ?_)
        refine g_yes (Eq.trans (b := .bool (!r_29)) rfl (congrArg V.bool hg8)) (g_v1 (t := 28) (u := (.int .i64 g_1.1)) (.int .i64 (w64 (g_1.1 - 1))) rfl rfl rfl ?_)
        obtain ⟨r_30, E_r_30, h⟩ := bind_some h
        refine g_yes (Eq.trans (b := .bool (!r_29)) rfl (congrArg V.bool hg8)) (g_call (m := 0) (al := false) (r := (Enc.enc (r_30 : Bool))) [Enc.enc (e_23.2 : Int), Enc.enc (0 : Int), Enc.enc (w64 (g_1.1 - 1) : Int)] (ta_cons (v := (.int .i64 e_23.2)) rfl rfl rfl (ta_cons (v := (.int .i64 0)) rfl rfl rfl (ta_cons (v := (.int .i64 (w64 (g_1.1 - 1)))) rfl rfl rfl ta_nil))) (H.c95 _ _ _ _ E_r_30) H.g95 rfl rfl rfl rfl ?_)
        refine g_yes (Eq.trans (b := .bool (!r_29)) rfl (congrArg V.bool hg8)) (g_v1 (t := 30) (u := (.bool r_30)) (.bool (!r_30)) rfl rfl rfl ?_)
        refine g_v2 (t1 := 24) (t2 := 31) (u1 := (.bool false)) (u2 := (.bool (!r_30))) (.bool (!r_30)) (Eq.trans (b := .bool (!r_29)) rfl (congrArg V.bool hg8)) rfl rfl rfl ?_
        refine g_v1 (t := 32) (u := (.bool (!r_30))) (.bool (!r_30)) rfl rfl rfl ?_
        refine split_on (c := (!r_30)) h (fun hg17 h => ?_) (fun hg17 h => ?_)
        · refine g_no (Eq.trans (b := .bool (!r_30)) rfl (congrArg V.bool hg17)) ?_
          refine g_no (Eq.trans (b := .bool (!r_30)) rfl (congrArg V.bool hg17)) ?_
          refine g_no (Eq.trans (b := .bool (!r_30)) rfl (congrArg V.bool hg17)) ?_
          refine g_no (Eq.trans (b := .bool (!r_30)) rfl (congrArg V.bool hg17)) ?_
          refine g_no (Eq.trans (b := .bool (!r_30)) rfl (congrArg V.bool hg17)) ?_
          refine g_v2 (t1 := 33) (t2 := 38) (u1 := (.bool true)) (u2 := (.tup [])) (.bool true) (Eq.trans (b := .bool (!r_30)) rfl (congrArg V.bool hg17)) rfl rfl rfl ?_
          refine g_v1 (t := 39) (u := (.bool true)) (.bool true) rfl rfl rfl ?_
          refine g_no rfl ?_
          refine g_no rfl ?_
          refine g_no rfl ?_
          refine g_skip rfl ?_
          refine g_skip rfl ?_
          refine g_skip rfl ?_
          refine g_skip rfl ?_
          refine g_skip rfl ?_
          refine g_skip rfl ?_
          refine g_skip rfl ?_
          refine g_skip rfl ?_
          refine g_skip rfl ?_
          refine g_no rfl ?_
          refine g_v2 (t1 := 40) (t2 := 53) (u1 := (.bool true)) (u2 := (.tup [])) (.bool true) rfl rfl rfl rfl ?_
          refine g_end ?_
          refine e_end ?_
          refine renew [(1, (.ref (.bx 1) 0 [] (.agg [(.int .i64 g_1.1), (Enc.enc (g_1.2 : List (Int × Int)))]))), (2, (.bool false)), (3, (.int .i64 i_12)), (54, (.bool true))] ⟨h1, h2, h3, rfl⟩ ?_
          rintro s ⟨h1, h2, h3, h54⟩
          exact t_f48_j1 H g_1 i_12 (s_l2Good_l1 F g_1 k) ih true _ ⟨h1, h2, h3, h54⟩ h
        · refine g_yes (Eq.trans (b := .bool (!r_30)) rfl (congrArg V.bool hg17)) (g_v1 (t := 4) (u := (.ref (.bx 4) 0 [] (.agg [(.int .i64 e_23.1), (.int .i64 e_23.2)]))) (.ref (.bx 4) 0 [0] (.int .i64 e_23.1)) h4 rfl rfl ?_)
          refine g_yes (Eq.trans (b := .bool (!r_30)) rfl (congrArg V.bool hg17)) (g_v1 (t := 34) (u := (.ref (.bx 4) 0 [0] (.int .i64 e_23.1))) (.int .i64 e_23.1) rfl rfl rfl ?_)
          refine g_yes (Eq.trans (b := .bool (!r_30)) rfl (congrArg V.bool hg17)) (g_v1 (t := 4) (u := (.ref (.bx 4) 0 [] (.agg [(.int .i64 e_23.1), (.int .i64 e_23.2)]))) (.ref (.bx 4) 0 [1] (.int .i64 e_23.2)) h4 rfl rfl ?_)
          refine g_yes (Eq.trans (b := .bool (!r_30)) rfl (congrArg V.bool hg17)) (g_v1 (t := 36) (u := (.ref (.bx 4) 0 [1] (.int .i64 e_23.2))) (.int .i64 e_23.2) rfl rfl rfl ?_)
          refine g_yes (Eq.trans (b := .bool (!r_30)) rfl (congrArg V.bool hg17)) (g_v2 (t1 := 35) (t2 := 37) (u1 := (.int .i64 e_23.1)) (u2 := (.int .i64 e_23.2)) (.bool (decide (e_23.1 ≥ e_23.2))) rfl rfl rfl rfl ?_)
          refine g_v2 (t1 := 33) (t2 := 38) (u1 := (.bool false)) (u2 := (.bool (decide (e_23.1 ≥ e_23.2)))) (.bool (decide (e_23.1 ≥ e_23.2))) (Eq.trans (b := .bool (!r_30)) rfl (congrArg V.bool hg17)) rfl rfl rfl ?_
          refine g_v1 (t := 39) (u := (.bool (decide (e_23.1 ≥ e_23.2)))) (.bool (decide (e_23.1 ≥ e_23.2))) rfl rfl rfl ?_
          refine split_on (c := decide (e_23.1 ≥ e_23.2)) h (fun hg24 h => ?_) (fun hg24 h => ?_)
          · refine g_no (Eq.trans (b := .bool (decide (e_23.1 ≥ e_23.2))) rfl (congrArg V.bool hg24)) ?_
            refine g_no (Eq.trans (b := .bool (decide (e_23.1 ≥ e_23.2))) rfl (congrArg V.bool hg24)) ?_
            refine g_no (Eq.trans (b := .bool (decide (e_23.1 ≥ e_23.2))) rfl (congrArg V.bool hg24)) ?_
            refine g_skip rfl ?_
            refine g_skip rfl ?_
            refine g_skip rfl ?_
            refine g_skip rfl ?_
            refine g_skip rfl ?_
            refine g_skip rfl ?_
            refine g_skip rfl ?_
            refine g_skip rfl ?_
            refine g_skip rfl ?_
            refine g_no (Eq.trans (b := .bool (decide (e_23.1 ≥ e_23.2))) rfl (congrArg V.bool hg24)) ?_
            refine g_v2 (t1 := 40) (t2 := 53) (u1 := (.bool true)) (u2 := (.tup [])) (.bool true) (Eq.trans (b := .bool (decide (e_23.1 ≥ e_23.2))) rfl (congrArg V.bool hg24)) rfl rfl rfl ?_
            refine g_end ?_
            refine e_end ?_
            refine renew [(1, (.ref (.bx 1) 0 [] (.agg [(.int .i64 g_1.1), (Enc.enc (g_1.2 : List (Int × Int)))]))), (2, (.bool false)), (3, (.int .i64 i_12)), (54, (.bool true))] ⟨h1, h2, h3, rfl⟩ ?_
            rintro s ⟨h1, h2, h3, h54⟩
            exact t_f48_j1 H g_1 i_12 (s_l2Good_l1 F g_1 k) ih true _ ⟨h1, h2, h3, h54⟩ h
          · refine g_yes (Eq.trans (b := .bool (decide (e_23.1 ≥ e_23.2))) rfl (congrArg V.bool hg24)) (g_v1 (t := 3) (u := (.int .i64 i_12)) (.int .i64 i_12) h3 rfl rfl ?_)
            refine g_yes (Eq.trans (b := .bool (decide (e_23.1 ≥ e_23.2))) rfl (congrArg V.bool hg24)) (g_v1 (t := 41) (u := (.int .i64 i_12)) (.bool (decide (i_12 > 0))) rfl rfl rfl ?_)
            refine g_yes (Eq.trans (b := .bool (decide (e_23.1 ≥ e_23.2))) rfl (congrArg V.bool hg24)) (g_v1 (t := 42) (u := (.bool (decide (i_12 > 0)))) (.bool (decide (i_12 > 0))) rfl rfl rfl ?_)
            refine split_on (c := decide (i_12 > 0)) h (fun hg27 h => ?_) (fun hg27 h => ?_)
            · refine g_yes (Eq.trans (b := .bool (decide (i_12 > 0))) rfl (congrArg V.bool hg27)) (g_v1 (t := 1) (u := (.ref (.bx 1) 0 [] (.agg [(.int .i64 g_1.1), (Enc.enc (g_1.2 : List (Int × Int)))]))) (.ref (.bx 1) 0 [1] (Enc.enc (g_1.2 : List (Int × Int)))) h1 rfl rfl ?_)
              refine g_yes (Eq.trans (b := .bool (decide (i_12 > 0))) rfl (congrArg V.bool hg27)) (g_v1 (t := 44) (u := (.ref (.bx 1) 0 [1] (Enc.enc (g_1.2 : List (Int × Int))))) (Enc.enc (g_1.2 : List (Int × Int))) rfl rfl rfl ?_)
              refine g_yes (Eq.trans (b := .bool (decide (i_12 > 0))) rfl (congrArg V.bool hg27)) (g_v1 (t := 3) (u := (.int .i64 i_12)) (.int .i64 i_12) h3 rfl rfl ?_)
              refine g_yes (Eq.trans (b := .bool (decide (i_12 > 0))) rfl (congrArg V.bool hg27)) (g_v1 (t := 46) (u := (.int .i64 i_12)) (.int .i64 (w64 (i_12 - 1))) rfl rfl rfl ?_)
              obtain ⟨e_31, E_e_31, h⟩ := bind_some h
              refine g_yes (Eq.trans (b := .bool (decide (i_12 > 0))) rfl (congrArg V.bool hg27)) (g_v (.ref .sh 0 [] (.agg [(.int .i64 e_31.1), (.int .i64 e_31.2)])) (ev_idx (t := .sh) (lo := 0) (xs := g_1.2) rfl rfl E_e_31 rfl rfl) ?_)
              refine g_yes (Eq.trans (b := .bool (decide (i_12 > 0))) rfl (congrArg V.bool hg27)) (g_v1 (t := 48) (u := (.ref .sh 0 [] (.agg [(.int .i64 e_31.1), (.int .i64 e_31.2)]))) (.agg [(.int .i64 e_31.1), (.int .i64 e_31.2)]) rfl rfl rfl ?_)
              refine g_yes (Eq.trans (b := .bool (decide (i_12 > 0))) rfl (congrArg V.bool hg27)) (g_v1 (t := 4) (u := (.ref (.bx 4) 0 [] (.agg [(.int .i64 e_23.1), (.int .i64 e_23.2)]))) (.agg [(.int .i64 e_23.1), (.int .i64 e_23.2)]) h4 rfl rfl ?_)
              obtain ⟨r_32, E_r_32, h⟩ := bind_some h
              refine g_yes (Eq.trans (b := .bool (decide (i_12 > 0))) rfl (congrArg V.bool hg27)) (g_call (m := 0) (al := false) (r := (Enc.enc (r_32 : Bool))) [Enc.enc (e_31 : (Int × Int)), Enc.enc (e_23 : (Int × Int))] (ta_cons (v := (.agg [(.int .i64 e_31.1), (.int .i64 e_31.2)])) rfl rfl (Enc.erase_enc (e_31 : (Int × Int))) (ta_cons (v := (.agg [(.int .i64 e_23.1), (.int .i64 e_23.2)])) rfl rfl (Enc.erase_enc (e_23 : (Int × Int))) ta_nil)) (H.c96 _ _ _ E_r_32) H.g96 rfl rfl rfl rfl ?_)
              refine g_yes (Eq.trans (b := .bool (decide (i_12 > 0))) rfl (congrArg V.bool hg27)) (g_v1 (t := 51) (u := (.bool r_32)) (.bool (!r_32)) rfl rfl rfl ?_)
              refine g_yes (Eq.trans (b := .bool (decide (e_23.1 ≥ e_23.2))) rfl (congrArg V.bool hg24)) (g_v2 (t1 := 43) (t2 := 52) (u1 := (.bool true)) (u2 := (.bool (!r_32))) (.bool (!r_32)) (Eq.trans (b := .bool (decide (i_12 > 0))) rfl (congrArg V.bool hg27)) rfl rfl rfl ?_)
              refine g_v2 (t1 := 40) (t2 := 53) (u1 := (.bool false)) (u2 := (.bool (!r_32))) (.bool (!r_32)) (Eq.trans (b := .bool (decide (e_23.1 ≥ e_23.2))) rfl (congrArg V.bool hg24)) rfl rfl rfl ?_
              refine g_end ?_
              refine e_end ?_
              refine renew [(1, (.ref (.bx 1) 0 [] (.agg [(.int .i64 g_1.1), (Enc.enc (g_1.2 : List (Int × Int)))]))), (2, (.bool false)), (3, (.int .i64 i_12)), (54, (.bool (!r_32)))] ⟨h1, h2, h3, rfl⟩ ?_
              rintro s ⟨h1, h2, h3, h54⟩
              exact t_f48_j1 H g_1 i_12 (s_l2Good_l1 F g_1 k) ih (!r_32) _ ⟨h1, h2, h3, h54⟩ h
            · refine g_no (Eq.trans (b := .bool (decide (i_12 > 0))) rfl (congrArg V.bool hg27)) ?_
              refine g_no (Eq.trans (b := .bool (decide (i_12 > 0))) rfl (congrArg V.bool hg27)) ?_
              refine g_no (Eq.trans (b := .bool (decide (i_12 > 0))) rfl (congrArg V.bool hg27)) ?_
              refine g_no (Eq.trans (b := .bool (decide (i_12 > 0))) rfl (congrArg V.bool hg27)) ?_
              refine g_no (Eq.trans (b := .bool (decide (i_12 > 0))) rfl (congrArg V.bool hg27)) ?_
              refine g_no (Eq.trans (b := .bool (decide (i_12 > 0))) rfl (congrArg V.bool hg27)) ?_
              refine g_no (Eq.trans (b := .bool (decide (i_12 > 0))) rfl (congrArg V.bool hg27)) ?_
              refine g_no (Eq.trans (b := .bool (decide (i_12 > 0))) rfl (congrArg V.bool hg27)) ?_
              refine g_no (Eq.trans (b := .bool (decide (i_12 > 0))) rfl (congrArg V.bool hg27)) ?_
              refine g_yes (Eq.trans (b := .bool (decide (e_23.1 ≥ e_23.2))) rfl (congrArg V.bool hg24)) (g_v2 (t1 := 43) (t2 := 52) (u1 := (.bool false)) (u2 := (.tup [])) (.bool false) (Eq.trans (b := .bool (decide (i_12 > 0))) rfl (congrArg V.bool hg27)) rfl rfl rfl ?_)
              refine g_v2 (t1 := 40) (t2 := 53) (u1 := (.bool false)) (u2 := (.bool false)) (.bool false) (Eq.trans (b := .bool (decide (e_23.1 ≥ e_23.2))) rfl (congrArg V.bool hg24)) rfl rfl rfl ?_
              refine g_end ?_
              refine e_end ?_
              refine renew [(1, (.ref (.bx 1) 0 [] (.agg [(.int .i64 g_1.1), (Enc.enc (g_1.2 : List (Int × Int)))]))), (2, (.bool false)), (3, (.int .i64 i_12)), (54, (.bool false))] ⟨h1, h2, h3, rfl⟩ ?_
              rintro s ⟨h1, h2, h3, h54⟩
              exact t_f48_j1 H g_1 i_12 (s_l2Good_l1 F g_1 k) ih false _ ⟨h1, h2, h3, h54⟩ h
    · refine .exit ?_
      refine .esq ?_
      refine .elp ?_
      refine .ebk ?_
      refine .nsq ?_
      refine .seq ?_
      refine run_reg ?_
      refine e_end ?_
      refine g_v1 (t := 1) (u := (.ref (.bx 1) 0 [] (.agg [(.int .i64 g_1.1), (Enc.enc (g_1.2 : List (Int × Int)))]))) (.ref (.bx 1) 0 [0] (.int .i64 g_1.1)) h1 rfl rfl ?_
      refine g_v1 (t := 55) (u := (.ref (.bx 1) 0 [0] (.int .i64 g_1.1))) (.int .i64 g_1.1) rfl rfl rfl ?_
      obtain ⟨r_33, E_r_33, h⟩ := bind_some h
      refine g_call (m := 0) (al := false) (r := (Enc.enc (r_33 : Bool))) [Enc.enc (g_1.1 : Int), Enc.enc (0 : Int), Enc.enc (8 : Int)] (ta_cons (v := (.int .i64 g_1.1)) rfl rfl rfl (ta_cons (v := (.int .i64 0)) rfl rfl rfl (ta_cons (v := (.int .i64 8)) rfl rfl rfl ta_nil))) (H.c95 _ _ _ _ E_r_33) H.g95 rfl rfl rfl rfl ?_
      refine g_v1 (t := 57) (u := (.bool r_33)) (.bool r_33) rfl rfl rfl ?_
      refine g_end ?_
      refine e_end ?_
      refine renew [(2, (.bool r_33))] rfl ?_
      rintro s h2
      refine .nsq ?_
      refine .ret ?_
      have hr := Option.some.inj h
      subst hr
      exact rrA (res_tmp h2) rfl
def s_l2Good (F : Nat) (g_1 : (Int × (List (Int × Int)))) : Option Bool :=
  s_l2Good_l1 F g_1 F 0
theorem t48 (H : H48 D σ F) (g_1 : (Int × (List (Int × Int)))) (s : Nat → V) (hs : Facts [(0, (.agg [(.int .i64 g_1.1), (Enc.enc (g_1.2 : List (Int × Int)))]))] s) (h : s_l2Good F g_1 = some r) : Run D σ (R48 r) (.run A48 []) s := by
  unfold s_l2Good at h
  have h0 := hs
  refine .seq ?_
  refine run_reg ?_
  refine e_clr ?_
  refine e_end ?_
  refine g_box (.agg [(.int .i64 g_1.1), (Enc.enc (g_1.2 : List (Int × Int)))]) (rd_of (keep_clear (s := s) (pk := [1]) h0 rfl (map_agg (maps_cons rfl (maps_cons (Enc.map_enc _ (g_1.2 : List (Int × Int))) maps_nil)))) rfl) (gone_clear (s := s) (pk := [1]) (t := 1) rfl) rfl ?_
  refine g_v0 (.bool false) rfl rfl ?_
  refine g_end ?_
  refine e_end ?_
  refine renew [(1, (.ref (.bx 1) 0 [] (.agg [(.int .i64 g_1.1), (Enc.enc (g_1.2 : List (Int × Int)))]))), (2, (.bool false))] ⟨rfl, rfl⟩ ?_
  rintro s ⟨h1, h2⟩
  refine .nsq ?_
  refine .seq ?_
  refine .seq ?_
  refine run_reg ?_
  refine e_end ?_
  refine g_v0 (.int .i64 0) rfl rfl ?_
  refine g_end ?_
  refine e_end ?_
  refine renew [(1, (.ref (.bx 1) 0 [] (.agg [(.int .i64 g_1.1), (Enc.enc (g_1.2 : List (Int × Int)))]))), (2, (.bool false)), (3, (.int .i64 0))] ⟨h1, h2, rfl⟩ ?_
  rintro s ⟨h1, h2, h3⟩
  refine .nsq ?_
  refine .block ?_
  refine .loop ?_
  exact t_f48_l1 H g_1 F 0 _ ⟨h1, h2, h3⟩ h
end
def e48 (F : Nat) : Ent := ⟨48, da (fun (x : ((Int × (List (Int × Int))) × Unit)) => s_l2Good F x.1) (fun (r : Bool) => (Enc.enc (r : Bool))), 0, false, selF []⟩
theorem p48 {F : Nat} {x0 : (Int × (List (Int × Int)))} {r : Bool} (h : s_l2Good F x0 = some r) : (e48 F).den [Enc.enc x0] = some (Enc.enc (r : Bool)) := da_put (f := fun (x : ((Int × (List (Int × Int))) × Unit)) => s_l2Good F x.1) (t := fun (r : Bool) => (Enc.enc (r : Bool))) (x0, ()) h
theorem o48 {D : Den} {σ : Sig} {F : Nat} (hF : Fits2 Try.prog D σ) (H : H48 D σ F) : (e48 F).Ok Try.prog := by
  refine ok_of (f := 48) (show unk 48 = 48 from rfl) (fun args r h => ?_) ⟨Try.f48, Try.func48, rfl, rfl⟩
  obtain ⟨⟨x0, _⟩, y, rfl, hy, rfl⟩ := da_open h
  exact contract_run hF (by kernel_rfl) Try.func48 rfl c48 (show 1 ≤ Try.f48.ntmps by decide) (t48 H x0 _ rfl hy)
/- loop.example/g01109/spec.l2Near -/
def A97_2 : AC := (AC.cond (O.t 13) AC.skip (AC.exit 0))
def A97_5 : AC := (AC.cond (O.t 42) (AC.seq (AC.reg [] [(I.mk (some 6) none false (X.v (A.mov (O.k (V.bool true)))))] []) AC.ret) AC.skip)
def A97_4 : AC := (AC.seq (AC.reg [] [(I.mk (some 21) none false (X.v (A.idxA (O.t 8) (O.k (V.int IntKind.i64 (Int.ofNat 0))) 2 1))), (I.mk (some 22) none false (X.v (A.load Sh.s (O.t 21)))), (I.mk (some 23) none false (X.v (A.mov (O.t 1)))), (I.mk (some 24) none false (X.v (A.bin BinOp.eql (O.t 22) (O.t 23)))), (I.mk (some 25) none false (X.v (A.mov (O.t 24)))), (I.mk (some 26) (some (25, true)) false (X.v (A.idxA (O.t 8) (O.k (V.int IntKind.i64 (Int.ofNat 1))) 2 1))), (I.mk (some 27) (some (25, true)) false (X.v (A.load Sh.s (O.t 26)))), (I.mk (some 28) (some (25, true)) false (X.v (A.mov (O.t 2)))), (I.mk (some 29) (some (25, true)) false (X.v (A.bin BinOp.eql (O.t 27) (O.t 28)))), (I.mk (some 30) none false (X.v (A.pick (O.t 25) (O.t 29) (O.k (V.bool false))))), (I.mk (some 31) none false (X.v (A.mov (O.t 30)))), (I.mk (some 32) (some (31, false)) false (X.v (A.idxA (O.t 8) (O.k (V.int IntKind.i64 (Int.ofNat 0))) 2 1))), (I.mk (some 33) (some (31, false)) false (X.v (A.load Sh.s (O.t 32)))), (I.mk (some 34) (some (31, false)) false (X.v (A.mov (O.t 2)))), (I.mk (some 35) (some (31, false)) false (X.v (A.bin BinOp.eql (O.t 33) (O.t 34)))), (I.mk (some 36) (some (31, false)) false (X.v (A.mov (O.t 35)))), (I.mk (some 37) (some (36, true)) false (X.v (A.idxA (O.t 8) (O.k (V.int IntKind.i64 (Int.ofNat 1))) 2 1))), (I.mk (some 38) (some (36, true)) false (X.v (A.load Sh.s (O.t 37)))), (I.mk (some 39) (some (36, true)) false (X.v (A.mov (O.t 1)))), (I.mk (some 40) (some (36, true)) false (X.v (A.bin BinOp.eql (O.t 38) (O.t 39)))), (I.mk (some 41) (some (31, false)) false (X.v (A.pick (O.t 36) (O.t 40) (O.k (V.bool false))))), (I.mk (some 42) none false (X.v (A.pick (O.t 31) (O.k (V.bool true)) (O.t 41))))] []) A97_5)
def A97_6 : AC := (AC.reg [] [(I.mk (some 14) none false (X.v (A.mov (O.t 7)))), (I.mk (some 15) none false (X.v (A.bin BinOp.add (O.t 14) (O.k (V.int IntKind.i64 (Int.ofNat 1)))))), (I.mk (some 7) none false (X.v (A.mov (O.t 15))))] [])
def A97_3 : AC := (AC.seq (AC.block 1 (AC.seq (AC.reg [.clr [8]] [(I.mk (some 16) none false (X.v (A.fld (O.t 3) 1 1))), (I.mk (some 17) none false (X.v (A.load Sh.p (O.t 16)))), (I.mk (some 18) none false (X.v (A.mov (O.t 7)))), (I.mk (some 19) none false (X.v (A.idx (O.t 17) (O.t 18) 2))), (I.mk (some 20) none false (X.v (A.load (Sh.ag [Sh.s, Sh.s]) (O.t 19)))), (I.mk (some 8) none false (X.alloc (V.agg [(V.int IntKind.i64 (Int.ofNat 0)), (V.int IntKind.i64 (Int.ofNat 0))]))), (I.mk none none false (X.store (Sh.ag [Sh.s, Sh.s]) (O.t 8) (O.t 20)))] []) A97_4)) A97_6)
def A97_1 : AC := (AC.seq (AC.seq (AC.reg [] [(I.mk (some 9) none false (X.v (A.mov (O.t 7)))), (I.mk (some 10) none false (X.v (A.fld (O.t 3) 1 1))), (I.mk (some 11) none false (X.v (A.load Sh.p (O.t 10)))), (I.mk (some 12) none false (X.v (A.len (O.t 11)))), (I.mk (some 13) none false (X.v (A.bin BinOp.lss (O.t 9) (O.t 12))))] []) A97_2) A97_3)
def A97_7 : AC := (AC.seq (AC.reg [] [(I.mk (some 6) none false (X.v (A.mov (O.k (V.bool false)))))] []) AC.ret)
def A97_9 : AC := (AC.block 0 (AC.loop A97_1))
def A97_8 : AC := (AC.seq (AC.seq (AC.reg [] [(I.mk (some 7) none false (X.v (A.mov (O.k (V.int IntKind.i64 (Int.ofNat 0))))))] []) A97_9) A97_7)
def A97 : AC := (AC.seq (AC.reg [.clr [3]] [(I.mk (some 3) none false (X.box (O.t 0))), (I.mk (some 6) none false (X.v (A.mov (O.k (V.bool false)))))] []) A97_8)
def an97 : List An := [{ id := 0, pre := [.clr [3]], ep := [], lin := [], sp := [] }, { id := 4, pre := [.clr [8]], ep := [], lin := [], sp := [] }]
theorem c97 : cC Try.prog Try.f97.ntmps an97 (Try.f97.body.getD .skip) = some A97 := by kernel_rfl
structure H97 (D : Den) (σ : Sig) (F : Nat) : Prop where
  mk ::
abbrev R97 (r : Bool) : (Nat → V) → Prop := RR Try.prog [.tmp 6] 0 false (Enc.enc (r : Bool))
section
variable {D : Den} {σ : Sig} {F : Nat} {r : Bool}
def s_l2Near_j1 (F : Nat) (a_2 : Int) (b_3 : Int) (g_1 : (Int × (List (Int × Int)))) (i_6 : Int) (c1 : Int → Option Bool) (t42_10 : Bool) : Option Bool :=
  bif t42_10 then
    some true
  else
    c1 (w64 (i_6 + 1))
theorem t_f97_j1 (H : H97 D σ F) (a_2 : Int) (b_3 : Int) (g_1 : (Int × (List (Int × Int)))) (i_6 : Int) (c1 : Int → Option Bool) (Hc1 : ∀ (i_6 : Int) (s : Nat → V), Facts [(1, (.int .i64 a_2)), (2, (.int .i64 b_3)), (3, (.ref (.bx 3) 0 [] (.agg [(.int .i64 g_1.1), (Enc.enc (g_1.2 : List (Int × Int)))]))), (6, (.bool false)), (7, (.int .i64 i_6))] s → c1 i_6 = some r → Run D σ (R97 r) (.run A97_1 [.lp A97_1, .bk 0, .sq A97_7]) s) (t42_10 : Bool) (s : Nat → V) (hs : Facts [(1, (.int .i64 a_2)), (2, (.int .i64 b_3)), (3, (.ref (.bx 3) 0 [] (.agg [(.int .i64 g_1.1), (Enc.enc (g_1.2 : List (Int × Int)))]))), (6, (.bool false)), (7, (.int .i64 i_6)), (42, (.bool t42_10))] s) (h : s_l2Near_j1 F a_2 b_3 g_1 i_6 c1 t42_10 = some r) : Run D σ (R97 r) (.nrm [.sq A97_5, .bk 1, .sq A97_6, .lp A97_1, .bk 0, .sq A97_7]) s := by
  unfold s_l2Near_j1 at h
  obtain ⟨h1, h2, h3, h6, h7, h42⟩ := hs
  refine .nsq ?_
  refine run_cond (t := t42_10) h42 h (fun h => ?_) (fun h => ?_)
  · refine .seq ?_
    refine run_reg ?_
    refine e_end ?_
    refine g_v0 (.bool true) rfl rfl ?_
    refine g_end ?_
    refine e_end ?_
    refine renew [(1, (.int .i64 a_2)), (2, (.int .i64 b_3)), (3, (.ref (.bx 3) 0 [] (.agg [(.int .i64 g_1.1), (Enc.enc (g_1.2 : List (Int × Int)))]))), (6, (.bool true)), (7, (.int .i64 i_6))] ⟨h1, h2, h3, rfl, h7⟩ ?_
    rintro s ⟨h1, h2, h3, h6, h7⟩
    refine .nsq ?_
    refine .ret ?_
    have hr := Option.some.inj h
    subst hr
    exact rrA (res_tmp h6) rfl
  · refine .skip ?_
    refine .nbk ?_
    refine .nsq ?_
    refine run_reg ?_
    refine e_end ?_
    refine g_v1 (t := 7) (u := (.int .i64 i_6)) (.int .i64 i_6) h7 rfl rfl ?_
    refine g_v1 (t := 14) (u := (.int .i64 i_6)) (.int .i64 (w64 (i_6 + 1))) rfl rfl rfl ?_
    refine g_v1 (t := 15) (u := (.int .i64 (w64 (i_6 + 1)))) (.int .i64 (w64 (i_6 + 1))) rfl rfl rfl ?_
    refine g_end ?_
    refine e_end ?_
    refine renew [(1, (.int .i64 a_2)), (2, (.int .i64 b_3)), (3, (.ref (.bx 3) 0 [] (.agg [(.int .i64 g_1.1), (Enc.enc (g_1.2 : List (Int × Int)))]))), (6, (.bool false)), (7, (.int .i64 (w64 (i_6 + 1))))] ⟨h1, h2, h3, h6, rfl⟩ ?_
    rintro s ⟨h1, h2, h3, h6, h7⟩
    refine .nlp ?_
    exact Hc1 (w64 (i_6 + 1)) _ ⟨h1, h2, h3, h6, h7⟩ h
def s_l2Near_l1 (F : Nat) (a_2 : Int) (b_3 : Int) (g_1 : (Int × (List (Int × Int))))  : Nat → Int → Option Bool
  | 0, _ => none
  | k + 1, i_6 =>
    bif decide (i_6 < (g_1.2.length : Int)) then
      (idx g_1.2 i_6).bind fun e_9 =>
      bif (e_9.1 == a_2) then
        bif (e_9.2 == b_3) then
          s_l2Near_j1 F a_2 b_3 g_1 i_6 (s_l2Near_l1 F a_2 b_3 g_1 k) true
        else
          bif (e_9.1 == b_3) then
            s_l2Near_j1 F a_2 b_3 g_1 i_6 (s_l2Near_l1 F a_2 b_3 g_1 k) (e_9.2 == a_2)
          else
            s_l2Near_j1 F a_2 b_3 g_1 i_6 (s_l2Near_l1 F a_2 b_3 g_1 k) false
      else
        bif (e_9.1 == b_3) then
          s_l2Near_j1 F a_2 b_3 g_1 i_6 (s_l2Near_l1 F a_2 b_3 g_1 k) (e_9.2 == a_2)
        else
          s_l2Near_j1 F a_2 b_3 g_1 i_6 (s_l2Near_l1 F a_2 b_3 g_1 k) false
    else
      some false
theorem t_f97_l1 (H : H97 D σ F) (a_2 : Int) (b_3 : Int) (g_1 : (Int × (List (Int × Int))))  : ∀ (k : Nat) (i_6 : Int) (s : Nat → V), Facts [(1, (.int .i64 a_2)), (2, (.int .i64 b_3)), (3, (.ref (.bx 3) 0 [] (.agg [(.int .i64 g_1.1), (Enc.enc (g_1.2 : List (Int × Int)))]))), (6, (.bool false)), (7, (.int .i64 i_6))] s → s_l2Near_l1 F a_2 b_3 g_1 k i_6 = some r → Run D σ (R97 r) (.run A97_1 [.lp A97_1, .bk 0, .sq A97_7]) s := by
  intro k
  induction k with
  | zero => intro i_6 s _ h; exact nomatch (h : (none : Option _) = some r)
  | succ k ih =>
    intro i_6 s hs h
    rw [s_l2Near_l1] at h
    obtain ⟨h1, h2, h3, h6, h7⟩ := hs
    refine .seq ?_
    refine .seq ?_
    refine run_reg ?_
    refine e_end ?_
    refine g_v1 (t := 7) (u := (.int .i64 i_6)) (.int .i64 i_6) h7 rfl rfl ?_
    refine g_v1 (t := 3) (u := (.ref (.bx 3) 0 [] (.agg [(.int .i64 g_1.1), (Enc.enc (g_1.2 : List (Int × Int)))]))) (.ref (.bx 3) 0 [1] (Enc.enc (g_1.2 : List (Int × Int)))) h3 rfl rfl ?_
    refine g_v1 (t := 10) (u := (.ref (.bx 3) 0 [1] (Enc.enc (g_1.2 : List (Int × Int))))) (Enc.enc (g_1.2 : List (Int × Int))) rfl rfl rfl ?_
    refine g_v (.int .i64 (g_1.2.length : Int)) (ev_len (xs := g_1.2) rfl) ?_
    refine g_v2 (t1 := 9) (t2 := 12) (u1 := (.int .i64 i_6)) (u2 := (.int .i64 (g_1.2.length : Int))) (.bool (decide (i_6 < (g_1.2.length : Int)))) rfl rfl rfl rfl ?_
    refine g_end ?_
    refine e_end ?_
    refine renew [(1, (.int .i64 a_2)), (2, (.int .i64 b_3)), (3, (.ref (.bx 3) 0 [] (.agg [(.int .i64 g_1.1), (Enc.enc (g_1.2 : List (Int × Int)))]))), (6, (.bool false)), (7, (.int .i64 i_6)), (13, (.bool (decide (i_6 < (g_1.2.length : Int)))))] ⟨h1, h2, h3, h6, h7, rfl⟩ ?_
    rintro s ⟨h1, h2, h3, h6, h7, h13⟩
    refine .nsq ?_
    refine run_cond (t := decide (i_6 < (g_1.2.length : Int))) h13 h (fun h => ?_) (fun h => ?_)
    · refine .skip ?_
      refine .nsq ?_
      refine .seq ?_
      refine .block ?_
      refine .seq ?_
      refine run_reg ?_
      refine e_clr ?_
      refine e_end ?_
      refine g_v1 (t := 3) (u := (.ref (.bx 3) 0 [] (.agg [(.int .i64 g_1.1), (Enc.enc (g_1.2 : List (Int × Int)))]))) (.ref (.bx 3) 0 [1] (Enc.enc (g_1.2 : List (Int × Int)))) (keep_clear (s := s) (pk := [8]) h3 rfl (map_bx rfl (map_agg (maps_cons rfl (maps_cons (Enc.map_enc _ (g_1.2 : List (Int × Int))) maps_nil))))) rfl rfl ?_
      refine g_v1 (t := 16) (u := (.ref (.bx 3) 0 [1] (Enc.enc (g_1.2 : List (Int × Int))))) (Enc.enc (g_1.2 : List (Int × Int))) rfl rfl rfl ?_
      refine g_v1 (t := 7) (u := (.int .i64 i_6)) (.int .i64 i_6) (keep_clear (s := s) (pk := [8]) h7 rfl rfl) rfl rfl ?_
      obtain ⟨e_9, E_e_9, h⟩ := bind_some h
      refine g_v (.ref .sh 0 [] (.agg [(.int .i64 e_9.1), (.int .i64 e_9.2)])) (ev_idx (t := .sh) (lo := 0) (xs := g_1.2) rfl rfl E_e_9 rfl rfl) ?_
      refine g_v1 (t := 19) (u := (.ref .sh 0 [] (.agg [(.int .i64 e_9.1), (.int .i64 e_9.2)]))) (.agg [(.int .i64 e_9.1), (.int .i64 e_9.2)]) rfl rfl rfl ?_
      refine g_alloc (gone_clear (s := s) (pk := [8]) (t := 8) rfl) ?_
      refine g_store (.agg [(.int .i64 e_9.1), (.int .i64 e_9.2)]) (rd_of rfl rfl) (rd_of rfl rfl) (by refine ⟨by decide, by decide, rfl, rfl, rfl, ?_⟩; first | rfl | simp [V.toks, V.tokss, Enc.toks_enc]) ?_
      refine g_end ?_
      refine e_end ?_
      refine renew [(1, (.int .i64 a_2)), (2, (.int .i64 b_3)), (3, (.ref (.bx 3) 0 [] (.agg [(.int .i64 g_1.1), (Enc.enc (g_1.2 : List (Int × Int)))]))), (6, (.bool false)), (7, (.int .i64 i_6)), (8, (.ref (.bx 8) 0 [] (.agg [(.int .i64 e_9.1), (.int .i64 e_9.2)])))] ⟨(keep_mut (keep_clear (s := s) (pk := [8]) h1 rfl rfl) rfl), (keep_mut (keep_clear (s := s) (pk := [8]) h2 rfl rfl) rfl), (keep_mut (keep_clear (s := s) (pk := [8]) h3 rfl (map_bx rfl (map_agg (maps_cons rfl (maps_cons (Enc.map_enc _ (g_1.2 : List (Int × Int))) maps_nil))))) (mut_ref_ne rfl rfl (mut_agg (muts_cons rfl (muts_cons (Enc.mut_enc _ _ _ _ (g_1.2 : List (Int × Int))) rfl))))), (keep_mut (keep_clear (s := s) (pk := [8]) h6 rfl rfl) rfl), (keep_mut (keep_clear (s := s) (pk := [8]) h7 rfl rfl) rfl), (keep_mut rfl rfl)⟩ ?_
      rintro s ⟨h1, h2, h3, h6, h7, h8⟩
      refine .nsq ?_
      refine .seq ?_
      refine run_reg ?_
      refine e_end ?_
      refine g_v1 (t := 8) (u := (.ref (.bx 8) 0 [] (.agg [(.int .i64 e_9.1), (.int .i64 e_9.2)]))) (.ref (.bx 8) 0 [0] (.int .i64 e_9.1)) h8 rfl rfl ?_
      refine g_v1 (t := 21) (u := (.ref (.bx 8) 0 [0] (.int .i64 e_9.1))) (.int .i64 e_9.1) rfl rfl rfl ?_
      refine g_v1 (t := 1) (u := (.int .i64 a_2)) (.int .i64 a_2) h1 rfl rfl ?_
      refine g_v2 (t1 := 22) (t2 := 23) (u1 := (.int .i64 e_9.1)) (u2 := (.int .i64 a_2)) (.bool (e_9.1 == a_2)) rfl rfl rfl rfl ?_
      refine g_v1 (t := 24) (u := (.bool (e_9.1 == a_2))) (.bool (e_9.1 == a_2)) rfl rfl rfl ?_
      refine split_on (c := (e_9.1 == a_2)) h (fun hg5 h => ?_) (fun hg5 h => ?_)
      · refine g_yes (Eq.trans (b := .bool (e_9.1 == a_2)) rfl (congrArg V.bool hg5)) (g_v1 (t := 8) (u := (.ref (.bx 8) 0 [] (.agg [(.int .i64 e_9.1), (.int .i64 e_9.2)]))) (.ref (.bx 8) 0 [1] (.int .i64 e_9.2)) h8 rfl rfl ?_)
        refine g_yes (Eq.trans (b := .bool (e_9.1 == a_2)) rfl (congrArg V.bool hg5)) (g_v1 (t := 26) (u := (.ref (.bx 8) 0 [1] (.int .i64 e_9.2))) (.int .i64 e_9.2) rfl rfl rfl ?_)
        refine g_yes (Eq.trans (b := .bool (e_9.1 == a_2)) rfl (congrArg V.bool hg5)) (g_v1 (t := 2) (u := (.int .i64 b_3)) (.int .i64 b_3) h2 rfl rfl ?_)
        refine g_yes (Eq.trans (b := .bool (e_9.1 == a_2)) rfl (congrArg V.bool hg5)) (g_v2 (t1 := 27) (t2 := 28) (u1 := (.int .i64 e_9.2)) (u2 := (.int .i64 b_3)) (.bool (e_9.2 == b_3)) rfl rfl rfl rfl ?_)
        refine g_v2 (t1 := 25) (t2 := 29) (u1 := (.bool true)) (u2 := (.bool (e_9.2 == b_3))) (.bool (e_9.2 == b_3)) (Eq.trans (b := .bool (e_9.1 == a_2)) rfl (congrArg V.bool hg5)) rfl rfl rfl ?_
        refine g_v1 (t := 30) (u := (.bool (e_9.2 == b_3))) (.bool (e_9.2 == b_3)) rfl rfl rfl ?_
        refine split_on (c := (e_9.2 == b_3)) h (fun hg11 h => ?_) (fun hg11 h => ?_)
        · refine g_no (Eq.trans (b := .bool (e_9.2 == b_3)) rfl (congrArg V.bool hg11)) ?_
          refine g_no (Eq.trans (b := .bool (e_9.2 == b_3)) rfl (congrArg V.bool hg11)) ?_
          refine g_no (Eq.trans (b := .bool (e_9.2 == b_3)) rfl (congrArg V.bool hg11)) ?_
          refine g_no (Eq.trans (b := .bool (e_9.2 == b_3)) rfl (congrArg V.bool hg11)) ?_
          refine g_no (Eq.trans (b := .bool (e_9.2 == b_3)) rfl (congrArg V.bool hg11)) ?_
          refine g_skip rfl ?_
          refine g_skip rfl ?_
          refine g_skip rfl ?_
          refine g_skip rfl ?_
          refine g_no (Eq.trans (b := .bool (e_9.2 == b_3)) rfl (congrArg V.bool hg11)) ?_
          refine g_v2 (t1 := 31) (t2 := 41) (u1 := (.bool true)) (u2 := (.tup [])) (.bool true) (Eq.trans (b := .bool (e_9.2 == b_3)) rfl (congrArg V.bool hg11)) rfl rfl rfl ?_
          refine g_end ?_
          refine e_end ?_
          refine renew [(1, (.int .i64 a_2)), (2, (.int .i64 b_3)), (3, (.ref (.bx 3) 0 [] (.agg [(.int .i64 g_1.1), (Enc.enc (g_1.2 : List (Int × Int)))]))), (6, (.bool false)), (7, (.int .i64 i_6)), (42, (.bool true))] ⟨h1, h2, h3, h6, h7, rfl⟩ ?_
          rintro s ⟨h1, h2, h3, h6, h7, h42⟩
          exact t_f97_j1 H a_2 b_3 g_1 i_6 (s_l2Near_l1 F a_2 b_3 g_1 k) ih true _ ⟨h1, h2, h3, h6, h7, h42⟩ h
        · refine g_yes (Eq.trans (b := .bool (e_9.2 == b_3)) rfl (congrArg V.bool hg11)) (g_v1 (t := 8) (u := (.ref (.bx 8) 0 [] (.agg [(.int .i64 e_9.1), (.int .i64 e_9.2)]))) (.ref (.bx 8) 0 [0] (.int .i64 e_9.1)) h8 rfl rfl ?_)
          refine g_yes (Eq.trans (b := .bool (e_9.2 == b_3)) rfl (congrArg V.bool hg11)) (g_v1 (t := 32) (u := (.ref (.bx 8) 0 [0] (.int .i64 e_9.1))) (.int .i64 e_9.1) rfl rfl rfl ?_)
          refine g_yes (Eq.trans (b := .bool (e_9.2 == b_3)) rfl (congrArg V.bool hg11)) (g_v1 (t := 2) (u := (.int .i64 b_3)) (.int .i64 b_3) h2 rfl rfl ?_)
          refine g_yes (Eq.trans (b := .bool (e_9.2 == b_3)) rfl (congrArg V.bool hg11)) (g_v2 (t1 := 33) (t2 := 34) (u1 := (.int .i64 e_9.1)) (u2 := (.int .i64 b_3)) (.bool (e_9.1 == b_3)) rfl rfl rfl rfl ?_)
          refine g_yes (Eq.trans (b := .bool (e_9.2 == b_3)) rfl (congrArg V.bool hg11)) (g_v1 (t := 35) (u := (.bool (e_9.1 == b_3))) (.bool (e_9.1 == b_3)) rfl rfl rfl ?_)
          refine split_on (c := (e_9.1 == b_3)) h (fun hg16 h => ?_) (fun hg16 h => ?_)
          · refine g_yes (Eq.trans (b := .bool (e_9.1 == b_3)) rfl (congrArg V.bool hg16)) (g_v1 (t := 8) (u := (.ref (.bx 8) 0 [] (.agg [(.int .i64 e_9.1), (.int .i64 e_9.2)]))) (.ref (.bx 8) 0 [1] (.int .i64 e_9.2)) h8 rfl rfl ?_)
            refine g_yes (Eq.trans (b := .bool (e_9.1 == b_3)) rfl (congrArg V.bool hg16)) (g_v1 (t := 37) (u := (.ref (.bx 8) 0 [1] (.int .i64 e_9.2))) (.int .i64 e_9.2) rfl rfl rfl ?_)
            refine g_yes (Eq.trans (b := .bool (e_9.1 == b_3)) rfl (congrArg V.bool hg16)) (g_v1 (t := 1) (u := (.int .i64 a_2)) (.int .i64 a_2) h1 rfl rfl ?_)
            refine g_yes (Eq.trans (b := .bool (e_9.1 == b_3)) rfl (congrArg V.bool hg16)) (g_v2 (t1 := 38) (t2 := 39) (u1 := (.int .i64 e_9.2)) (u2 := (.int .i64 a_2)) (.bool (e_9.2 == a_2)) rfl rfl rfl rfl ?_)
            refine g_yes (Eq.trans (b := .bool (e_9.2 == b_3)) rfl (congrArg V.bool hg11)) (g_v2 (t1 := 36) (t2 := 40) (u1 := (.bool true)) (u2 := (.bool (e_9.2 == a_2))) (.bool (e_9.2 == a_2)) (Eq.trans (b := .bool (e_9.1 == b_3)) rfl (congrArg V.bool hg16)) rfl rfl rfl ?_)
            refine g_v2 (t1 := 31) (t2 := 41) (u1 := (.bool false)) (u2 := (.bool (e_9.2 == a_2))) (.bool (e_9.2 == a_2)) (Eq.trans (b := .bool (e_9.2 == b_3)) rfl (congrArg V.bool hg11)) rfl rfl rfl ?_
            refine g_end ?_
            refine e_end ?_
            refine renew [(1, (.int .i64 a_2)), (2, (.int .i64 b_3)), (3, (.ref (.bx 3) 0 [] (.agg [(.int .i64 g_1.1), (Enc.enc (g_1.2 : List (Int × Int)))]))), (6, (.bool false)), (7, (.int .i64 i_6)), (42, (.bool (e_9.2 == a_2)))] ⟨h1, h2, h3, h6, h7, rfl⟩ ?_
            rintro s ⟨h1, h2, h3, h6, h7, h42⟩
            exact t_f97_j1 H a_2 b_3 g_1 i_6 (s_l2Near_l1 F a_2 b_3 g_1 k) ih (e_9.2 == a_2) _ ⟨h1, h2, h3, h6, h7, h42⟩ h
          · refine g_no (Eq.trans (b := .bool (e_9.1 == b_3)) rfl (congrArg V.bool hg16)) ?_
            refine g_no (Eq.trans (b := .bool (e_9.1 == b_3)) rfl (congrArg V.bool hg16)) ?_
            refine g_no (Eq.trans (b := .bool (e_9.1 == b_3)) rfl (congrArg V.bool hg16)) ?_
            refine g_no (Eq.trans (b := .bool (e_9.1 == b_3)) rfl (congrArg V.bool hg16)) ?_
            refine g_yes (Eq.trans (b := .bool (e_9.2 == b_3)) rfl (congrArg V.bool hg11)) (g_v2 (t1 := 36) (t2 := 40) (u1 := (.bool false)) (u2 := (.tup [])) (.bool false) (Eq.trans (b := .bool (e_9.1 == b_3)) rfl (congrArg V.bool hg16)) rfl rfl rfl ?_)
            refine g_v2 (t1 := 31) (t2 := 41) (u1 := (.bool false)) (u2 := (.bool false)) (.bool false) (Eq.trans (b := .bool (e_9.2 == b_3)) rfl (congrArg V.bool hg11)) rfl rfl rfl ?_
            refine g_end ?_
            refine e_end ?_
            refine renew [(1, (.int .i64 a_2)), (2, (.int .i64 b_3)), (3, (.ref (.bx 3) 0 [] (.agg [(.int .i64 g_1.1), (Enc.enc (g_1.2 : List (Int × Int)))]))), (6, (.bool false)), (7, (.int .i64 i_6)), (42, (.bool false))] ⟨h1, h2, h3, h6, h7, rfl⟩ ?_
            rintro s ⟨h1, h2, h3, h6, h7, h42⟩
            exact t_f97_j1 H a_2 b_3 g_1 i_6 (s_l2Near_l1 F a_2 b_3 g_1 k) ih false _ ⟨h1, h2, h3, h6, h7, h42⟩ h
      · refine g_no (Eq.trans (b := .bool (e_9.1 == a_2)) rfl (congrArg V.bool hg5)) ?_
        refine g_no (Eq.trans (b := .bool (e_9.1 == a_2)) rfl (congrArg V.bool hg5)) ?_
        refine g_no (Eq.trans (b := .bool (e_9.1 == a_2)) rfl (congrArg V.bool hg5)) ?_
        refine g_no (Eq.trans (b := .bool (e_9.1 == a_2)) rfl (congrArg V.bool hg5)) ?_
        refine g_v2 (t1 := 25) (t2 := 29) (u1 := (.bool false)) (u2 := (.tup [])) (.bool false) (Eq.trans (b := .bool (e_9.1 == a_2)) rfl (congrArg V.bool hg5)) rfl rfl rfl ?_
        refine g_v1 (t := 30) (u := (.bool false)) (.bool false) rfl rfl rfl ?_
        refine g_yes rfl (g_v1 (t := 8) (u := (.ref (.bx 8) 0 [] (.agg [(.int .i64 e_9.1), (.int .i64 e_9.2)]))) (.ref (.bx 8) 0 [0] (.int .i64 e_9.1)) h8 rfl rfl ?_)
        refine g_yes rfl (g_v1 (t := 32) (u := (.ref (.bx 8) 0 [0] (.int .i64 e_9.1))) (.int .i64 e_9.1) rfl rfl rfl ?_)
        refine g_yes rfl (g_v1 (t := 2) (u := (.int .i64 b_3)) (.int .i64 b_3) h2 rfl rfl ?_)
        refine g_yes rfl (g_v2 (t1 := 33) (t2 := 34) (u1 := (.int .i64 e_9.1)) (u2 := (.int .i64 b_3)) (.bool (e_9.1 == b_3)) rfl rfl rfl rfl ?_)
        refine g_yes rfl (g_v1 (t := 35) (u := (.bool (e_9.1 == b_3))) (.bool (e_9.1 == b_3)) rfl rfl rfl ?_)
        refine split_on (c := (e_9.1 == b_3)) h (fun hg16 h => ?_) (fun hg16 h => ?_)
        · refine g_yes (Eq.trans (b := .bool (e_9.1 == b_3)) rfl (congrArg V.bool hg16)) (g_v1 (t := 8) (u := (.ref (.bx 8) 0 [] (.agg [(.int .i64 e_9.1), (.int .i64 e_9.2)]))) (.ref (.bx 8) 0 [1] (.int .i64 e_9.2)) h8 rfl rfl ?_)
          refine g_yes (Eq.trans (b := .bool (e_9.1 == b_3)) rfl (congrArg V.bool hg16)) (g_v1 (t := 37) (u := (.ref (.bx 8) 0 [1] (.int .i64 e_9.2))) (.int .i64 e_9.2) rfl rfl rfl ?_)
          refine g_yes (Eq.trans (b := .bool (e_9.1 == b_3)) rfl (congrArg V.bool hg16)) (g_v1 (t := 1) (u := (.int .i64 a_2)) (.int .i64 a_2) h1 rfl rfl ?_)
          refine g_yes (Eq.trans (b := .bool (e_9.1 == b_3)) rfl (congrArg V.bool hg16)) (g_v2 (t1 := 38) (t2 := 39) (u1 := (.int .i64 e_9.2)) (u2 := (.int .i64 a_2)) (.bool (e_9.2 == a_2)) rfl rfl rfl rfl ?_)
          refine g_yes rfl (g_v2 (t1 := 36) (t2 := 40) (u1 := (.bool true)) (u2 := (.bool (e_9.2 == a_2))) (.bool (e_9.2 == a_2)) (Eq.trans (b := .bool (e_9.1 == b_3)) rfl (congrArg V.bool hg16)) rfl rfl rfl ?_)
          refine g_v2 (t1 := 31) (t2 := 41) (u1 := (.bool false)) (u2 := (.bool (e_9.2 == a_2))) (.bool (e_9.2 == a_2)) rfl rfl rfl rfl ?_
          refine g_end ?_
          refine e_end ?_
          refine renew [(1, (.int .i64 a_2)), (2, (.int .i64 b_3)), (3, (.ref (.bx 3) 0 [] (.agg [(.int .i64 g_1.1), (Enc.enc (g_1.2 : List (Int × Int)))]))), (6, (.bool false)), (7, (.int .i64 i_6)), (42, (.bool (e_9.2 == a_2)))] ⟨h1, h2, h3, h6, h7, rfl⟩ ?_
          rintro s ⟨h1, h2, h3, h6, h7, h42⟩
          exact t_f97_j1 H a_2 b_3 g_1 i_6 (s_l2Near_l1 F a_2 b_3 g_1 k) ih (e_9.2 == a_2) _ ⟨h1, h2, h3, h6, h7, h42⟩ h
        · refine g_no (Eq.trans (b := .bool (e_9.1 == b_3)) rfl (congrArg V.bool hg16)) ?_
          refine g_no (Eq.trans (b := .bool (e_9.1 == b_3)) rfl (congrArg V.bool hg16)) ?_
          refine g_no (Eq.trans (b := .bool (e_9.1 == b_3)) rfl (congrArg V.bool hg16)) ?_
          refine g_no (Eq.trans (b := .bool (e_9.1 == b_3)) rfl (congrArg V.bool hg16)) ?_
          refine g_yes rfl (g_v2 (t1 := 36) (t2 := 40) (u1 := (.bool false)) (u2 := (.tup [])) (.bool false) (Eq.trans (b := .bool (e_9.1 == b_3)) rfl (congrArg V.bool hg16)) rfl rfl rfl ?_)
          refine g_v2 (t1 := 31) (t2 := 41) (u1 := (.bool false)) (u2 := (.bool false)) (.bool false) rfl rfl rfl rfl ?_
          refine g_end ?_
          refine e_end ?_
          refine renew [(1, (.int .i64 a_2)), (2, (.int .i64 b_3)), (3, (.ref (.bx 3) 0 [] (.agg [(.int .i64 g_1.1), (Enc.enc (g_1.2 : List (Int × Int)))]))), (6, (.bool false)), (7, (.int .i64 i_6)), (42, (.bool false))] ⟨h1, h2, h3, h6, h7, rfl⟩ ?_
          rintro s ⟨h1, h2, h3, h6, h7, h42⟩
          exact t_f97_j1 H a_2 b_3 g_1 i_6 (s_l2Near_l1 F a_2 b_3 g_1 k) ih false _ ⟨h1, h2, h3, h6, h7, h42⟩ h
    · refine .exit ?_
      refine .esq ?_
      refine .elp ?_
      refine .ebk ?_
      refine .nsq ?_
      refine .seq ?_
      refine run_reg ?_
      refine e_end ?_
      refine g_v0 (.bool false) rfl rfl ?_
      refine g_end ?_
      refine e_end ?_
      refine renew [(6, (.bool false))] rfl ?_
      rintro s h6
      refine .nsq ?_
      refine .ret ?_
      have hr := Option.some.inj h
      subst hr
      exact rrA (res_tmp h6) rfl
def s_l2Near (F : Nat) (g_1 : (Int × (List (Int × Int)))) (a_2 : Int) (b_3 : Int) : Option Bool :=
  s_l2Near_l1 F a_2 b_3 g_1 F 0
theorem t97 (H : H97 D σ F) (g_1 : (Int × (List (Int × Int)))) (a_2 : Int) (b_3 : Int) (s : Nat → V) (hs : Facts [(0, (.agg [(.int .i64 g_1.1), (Enc.enc (g_1.2 : List (Int × Int)))])), (1, (.int .i64 a_2)), (2, (.int .i64 b_3))] s) (h : s_l2Near F g_1 a_2 b_3 = some r) : Run D σ (R97 r) (.run A97 []) s := by
  unfold s_l2Near at h
  obtain ⟨h0, h1, h2⟩ := hs
  refine .seq ?_
  refine run_reg ?_
  refine e_clr ?_
  refine e_end ?_
  refine g_box (.agg [(.int .i64 g_1.1), (Enc.enc (g_1.2 : List (Int × Int)))]) (rd_of (keep_clear (s := s) (pk := [3]) h0 rfl (map_agg (maps_cons rfl (maps_cons (Enc.map_enc _ (g_1.2 : List (Int × Int))) maps_nil)))) rfl) (gone_clear (s := s) (pk := [3]) (t := 3) rfl) rfl ?_
  refine g_v0 (.bool false) rfl rfl ?_
  refine g_end ?_
  refine e_end ?_
  refine renew [(1, (.int .i64 a_2)), (2, (.int .i64 b_3)), (3, (.ref (.bx 3) 0 [] (.agg [(.int .i64 g_1.1), (Enc.enc (g_1.2 : List (Int × Int)))]))), (6, (.bool false))] ⟨(keep_clear (s := s) (pk := [3]) h1 rfl rfl), (keep_clear (s := s) (pk := [3]) h2 rfl rfl), rfl, rfl⟩ ?_
  rintro s ⟨h1, h2, h3, h6⟩
  refine .nsq ?_
  refine .seq ?_
  refine .seq ?_
  refine run_reg ?_
  refine e_end ?_
  refine g_v0 (.int .i64 0) rfl rfl ?_
  refine g_end ?_
  refine e_end ?_
  refine renew [(1, (.int .i64 a_2)), (2, (.int .i64 b_3)), (3, (.ref (.bx 3) 0 [] (.agg [(.int .i64 g_1.1), (Enc.enc (g_1.2 : List (Int × Int)))]))), (6, (.bool false)), (7, (.int .i64 0))] ⟨h1, h2, h3, h6, rfl⟩ ?_
  rintro s ⟨h1, h2, h3, h6, h7⟩
  refine .nsq ?_
  refine .block ?_
  refine .loop ?_
  exact t_f97_l1 H a_2 b_3 g_1 F 0 _ ⟨h1, h2, h3, h6, h7⟩ h
end
def e97 (F : Nat) : Ent := ⟨97, da (fun (x : ((Int × (List (Int × Int))) × Int × Int × Unit)) => s_l2Near F x.1 x.2.1 x.2.2.1) (fun (r : Bool) => (Enc.enc (r : Bool))), 0, false, selF []⟩
theorem p97 {F : Nat} {x0 : (Int × (List (Int × Int)))} {x1 : Int} {x2 : Int} {r : Bool} (h : s_l2Near F x0 x1 x2 = some r) : (e97 F).den [Enc.enc x0, Enc.enc x1, Enc.enc x2] = some (Enc.enc (r : Bool)) := da_put (f := fun (x : ((Int × (List (Int × Int))) × Int × Int × Unit)) => s_l2Near F x.1 x.2.1 x.2.2.1) (t := fun (r : Bool) => (Enc.enc (r : Bool))) (x0, x1, x2, ()) h
theorem o97 {D : Den} {σ : Sig} {F : Nat} (hF : Fits2 Try.prog D σ) (H : H97 D σ F) : (e97 F).Ok Try.prog := by
  refine ok_of (f := 97) (show unk 97 = 97 from rfl) (fun args r h => ?_) ⟨Try.f97, Try.func97, rfl, rfl⟩
  obtain ⟨⟨x0, x1, x2, _⟩, y, rfl, hy, rfl⟩ := da_open h
  exact contract_run hF (by kernel_rfl) Try.func97 rfl c97 (show 3 ≤ Try.f97.ntmps by decide) (t97 H x0 x1 x2 _ ⟨rfl, rfl, rfl⟩ hy)
/- loop.example/g01109/spec.l2Neighbors -/
def A107_2 : AC := (AC.cond (O.t 11) AC.skip (AC.exit 0))
def A107_4 : AC := (AC.cond (O.t 17) (AC.reg [.clr [20, 21]] [(I.mk (some 18) none false (X.v (A.mov (O.t 5)))), (I.mk (some 19) none false (X.v (A.mov (O.t 6)))), (I.mk (some 20) none false (X.lit (V.int IntKind.i64 (Int.ofNat 0)) 1 [(0, 0, (O.t 19))])), (I.mk (some 21) none false (X.app Sh.s (O.t 18) (O.t 20))), (I.mk (some 5) none false (X.v (A.mov (O.t 21))))] [.home 21 5]) AC.skip)
def A107_5 : AC := (AC.reg [] [(I.mk (some 12) none false (X.v (A.mov (O.t 6)))), (I.mk (some 13) none false (X.v (A.bin BinOp.add (O.t 12) (O.k (V.int IntKind.i64 (Int.ofNat 1)))))), (I.mk (some 6) none false (X.v (A.mov (O.t 13))))] [])
def A107_3 : AC := (AC.seq (AC.block 1 (AC.seq (AC.reg [] [(I.mk (some 14) none false (X.v (A.load (Sh.ag [Sh.s, Sh.p]) (O.t 2)))), (I.mk (some 15) none false (X.v (A.mov (O.t 1)))), (I.mk (some 16) none false (X.v (A.mov (O.t 6)))), (I.mk (some 17) none false (X.call (O.k (V.fn 97 [] [])) [(O.t 14), (O.t 15), (O.t 16)]))] []) A107_4)) A107_5)
def A107_1 : AC := (AC.seq (AC.seq (AC.reg [] [(I.mk (some 8) none false (X.v (A.mov (O.t 6)))), (I.mk (some 9) none false (X.v (A.fld (O.t 2) 0 0))), (I.mk (some 10) none false (X.v (A.load Sh.s (O.t 9)))), (I.mk (some 11) none false (X.v (A.bin BinOp.lss (O.t 8) (O.t 10))))] []) A107_2) A107_3)
def A107_6 : AC := (AC.seq (AC.reg [] [(I.mk (some 22) none false (X.v (A.mov (O.t 5)))), (I.mk (some 4) none false (X.v (A.mov (O.t 22))))] [.home 5 4]) AC.ret)
def A107_9 : AC := (AC.block 0 (AC.loop A107_1))
def A107_8 : AC := (AC.seq (AC.seq (AC.reg [] [(I.mk (some 6) none false (X.v (A.mov (O.k (V.int IntKind.i64 (Int.ofNat 0))))))] []) A107_9) A107_6)
def A107_7 : AC := (AC.seq (AC.reg [.clr [7]] [(I.mk (some 7) none false (X.lit (V.int IntKind.i64 (Int.ofNat 0)) 0 [])), (I.mk (some 5) none false (X.v (A.mov (O.t 7))))] [.home 7 5]) A107_8)
def A107 : AC := (AC.seq (AC.reg [.clr [2]] [(I.mk (some 2) none false (X.box (O.t 0))), (I.mk (some 4) none false (X.v (A.mov (O.k (V.sl Tok.nl Sh.s 0 [])))))] []) A107_7)
def an107 : List An := [{ id := 0, pre := [.clr [2]], ep := [], lin := [], sp := [] }, { id := 1, pre := [.clr [7]], ep := [.home 7 5], lin := [], sp := [] }, { id := 6, pre := [.clr [20, 21]], ep := [.home 21 5], lin := [], sp := [] }, { id := 7, pre := [], ep := [.home 5 4], lin := [], sp := [] }]
theorem c107 : cC Try.prog Try.f107.ntmps an107 (Try.f107.body.getD .skip) = some A107 := by kernel_rfl
structure H107 (D : Den) (σ : Sig) (F : Nat) : Prop where
  c97 : ∀ (x0 : (Int × (List (Int × Int)))) (x1 : Int) (x2 : Int) r, s_l2Near F x0 x1 x2 = some r → D 97 [Enc.enc x0, Enc.enc x1, Enc.enc x2] = some (Enc.enc (r : Bool))
  g97 : σ 97 = some (0, false)
abbrev R107 (r : (List Int)) : (Nat → V) → Prop := RR Try.prog [.tmp 4] 0 false (Enc.enc (r : (List Int)))
section
variable {D : Den} {σ : Sig} {F : Nat} {r : (List Int)}
def s_l2Neighbors_j1 (F : Nat) (x_2 : Int) (g_1 : (Int × (List (Int × Int)))) (y_8 : Int) (c1 : (List Int) → Int → Option (List Int)) (out_15 : (List Int)) : Option (List Int) :=
  c1 out_15 (w64 (y_8 + 1))
theorem t_f107_j1 (H : H107 D σ F) (x_2 : Int) (g_1 : (Int × (List (Int × Int)))) (y_8 : Int) (c1 : (List Int) → Int → Option (List Int)) (Hc1 : ∀ (out_7 : (List Int)) (y_8 : Int) (s : Nat → V), Facts [(1, (.int .i64 x_2)), (2, (.ref (.bx 2) 0 [] (.agg [(.int .i64 g_1.1), (Enc.enc (g_1.2 : List (Int × Int)))]))), (4, (.sl .nl (Enc.shp Int) 0 [])), (5, (encO (.at 5 []) (.of (out_7 : List Int)))), (6, (.int .i64 y_8))] s → c1 out_7 y_8 = some r → Run D σ (R107 r) (.run A107_1 [.lp A107_1, .bk 0, .sq A107_6]) s) (out_15 : (List Int)) (s : Nat → V) (hs : Facts [(1, (.int .i64 x_2)), (2, (.ref (.bx 2) 0 [] (.agg [(.int .i64 g_1.1), (Enc.enc (g_1.2 : List (Int × Int)))]))), (4, (.sl .nl (Enc.shp Int) 0 [])), (5, (encO (.at 5 []) (.of (out_15 : List Int)))), (6, (.int .i64 y_8))] s) (h : s_l2Neighbors_j1 F x_2 g_1 y_8 c1 out_15 = some r) : Run D σ (R107 r) (.nrm [.bk 1, .sq A107_5, .lp A107_1, .bk 0, .sq A107_6]) s := by
  unfold s_l2Neighbors_j1 at h
  obtain ⟨h1, h2, h4, h5, h6⟩ := hs
  refine .nbk ?_
  refine .nsq ?_
  refine run_reg ?_
  refine e_end ?_
  refine g_v1 (t := 6) (u := (.int .i64 y_8)) (.int .i64 y_8) h6 rfl rfl ?_
  refine g_v1 (t := 12) (u := (.int .i64 y_8)) (.int .i64 (w64 (y_8 + 1))) rfl rfl rfl ?_
  refine g_v1 (t := 13) (u := (.int .i64 (w64 (y_8 + 1)))) (.int .i64 (w64 (y_8 + 1))) rfl rfl rfl ?_
  refine g_end ?_
  refine e_end ?_
  refine renew [(1, (.int .i64 x_2)), (2, (.ref (.bx 2) 0 [] (.agg [(.int .i64 g_1.1), (Enc.enc (g_1.2 : List (Int × Int)))]))), (4, (.sl .nl (Enc.shp Int) 0 [])), (5, (encO (.at 5 []) (.of (out_15 : List Int)))), (6, (.int .i64 (w64 (y_8 + 1))))] ⟨h1, h2, h4, h5, rfl⟩ ?_
  rintro s ⟨h1, h2, h4, h5, h6⟩
  refine .nlp ?_
  exact Hc1 out_15 (w64 (y_8 + 1)) _ ⟨h1, h2, h4, h5, h6⟩ h
def s_l2Neighbors_l1 (F : Nat) (x_2 : Int) (g_1 : (Int × (List (Int × Int))))  : Nat → (List Int) → Int → Option (List Int)
  | 0, _, _ => none
  | k + 1, out_7, y_8 =>
    bif decide (y_8 < g_1.1) then
      (s_l2Near F g_1 x_2 y_8).bind fun r_13 =>
      bif r_13 then
        (appL out_7 [y_8]).bind fun ap_16 =>
        s_l2Neighbors_j1 F x_2 g_1 y_8 (s_l2Neighbors_l1 F x_2 g_1 k) ap_16
      else
        s_l2Neighbors_j1 F x_2 g_1 y_8 (s_l2Neighbors_l1 F x_2 g_1 k) out_7
    else
      some out_7
theorem t_f107_l1 (H : H107 D σ F) (x_2 : Int) (g_1 : (Int × (List (Int × Int))))  : ∀ (k : Nat) (out_7 : (List Int)) (y_8 : Int) (s : Nat → V), Facts [(1, (.int .i64 x_2)), (2, (.ref (.bx 2) 0 [] (.agg [(.int .i64 g_1.1), (Enc.enc (g_1.2 : List (Int × Int)))]))), (4, (.sl .nl (Enc.shp Int) 0 [])), (5, (encO (.at 5 []) (.of (out_7 : List Int)))), (6, (.int .i64 y_8))] s → s_l2Neighbors_l1 F x_2 g_1 k out_7 y_8 = some r → Run D σ (R107 r) (.run A107_1 [.lp A107_1, .bk 0, .sq A107_6]) s := by
  intro k
  induction k with
  | zero => intro out_7 y_8 s _ h; exact nomatch (h : (none : Option _) = some r)
  | succ k ih =>
    intro out_7 y_8 s hs h
    rw [s_l2Neighbors_l1] at h
    obtain ⟨h1, h2, h4, h5, h6⟩ := hs
    refine .seq ?_
    refine .seq ?_
    refine run_reg ?_
    refine e_end ?_
    refine g_v1 (t := 6) (u := (.int .i64 y_8)) (.int .i64 y_8) h6 rfl rfl ?_
    refine g_v1 (t := 2) (u := (.ref (.bx 2) 0 [] (.agg [(.int .i64 g_1.1), (Enc.enc (g_1.2 : List (Int × Int)))]))) (.ref (.bx 2) 0 [0] (.int .i64 g_1.1)) h2 rfl rfl ?_
    refine g_v1 (t := 9) (u := (.ref (.bx 2) 0 [0] (.int .i64 g_1.1))) (.int .i64 g_1.1) rfl rfl rfl ?_
    refine g_v2 (t1 := 8) (t2 := 10) (u1 := (.int .i64 y_8)) (u2 := (.int .i64 g_1.1)) (.bool (decide (y_8 < g_1.1))) rfl rfl rfl rfl ?_
    refine g_end ?_
    refine e_end ?_
    refine renew [(1, (.int .i64 x_2)), (2, (.ref (.bx 2) 0 [] (.agg [(.int .i64 g_1.1), (Enc.enc (g_1.2 : List (Int × Int)))]))), (4, (.sl .nl (Enc.shp Int) 0 [])), (5, (encO (.at 5 []) (.of (out_7 : List Int)))), (6, (.int .i64 y_8)), (11, (.bool (decide (y_8 < g_1.1))))] ⟨h1, h2, h4, h5, h6, rfl⟩ ?_
    rintro s ⟨h1, h2, h4, h5, h6, h11⟩
    refine .nsq ?_
    refine run_cond (t := decide (y_8 < g_1.1)) h11 h (fun h => ?_) (fun h => ?_)
    · refine .skip ?_
      refine .nsq ?_
      refine .seq ?_
      refine .block ?_
      refine .seq ?_
      refine run_reg ?_
      refine e_end ?_
      refine g_v1 (t := 2) (u := (.ref (.bx 2) 0 [] (.agg [(.int .i64 g_1.1), (Enc.enc (g_1.2 : List (Int × Int)))]))) (.agg [(.int .i64 g_1.1), (Enc.enc (g_1.2 : List (Int × Int)))]) h2 rfl rfl ?_
      refine g_v1 (t := 1) (u := (.int .i64 x_2)) (.int .i64 x_2) h1 rfl rfl ?_
      refine g_v1 (t := 6) (u := (.int .i64 y_8)) (.int .i64 y_8) h6 rfl rfl ?_
      obtain ⟨r_13, E_r_13, h⟩ := bind_some h
      refine g_call (m := 0) (al := false) (r := (Enc.enc (r_13 : Bool))) [Enc.enc (g_1 : (Int × (List (Int × Int)))), Enc.enc (x_2 : Int), Enc.enc (y_8 : Int)] (ta_cons (v := (.agg [(.int .i64 g_1.1), (Enc.enc (g_1.2 : List (Int × Int)))])) rfl rfl (Enc.erase_enc (g_1 : (Int × (List (Int × Int))))) (ta_cons (v := (.int .i64 x_2)) rfl rfl rfl (ta_cons (v := (.int .i64 y_8)) rfl rfl rfl ta_nil))) (H.c97 _ _ _ _ E_r_13) H.g97 rfl rfl rfl rfl ?_
      refine g_end ?_
      refine e_end ?_
      refine renew [(1, (.int .i64 x_2)), (2, (.ref (.bx 2) 0 [] (.agg [(.int .i64 g_1.1), (Enc.enc (g_1.2 : List (Int × Int)))]))), (4, (.sl .nl (Enc.shp Int) 0 [])), (5, (encO (.at 5 []) (.of (out_7 : List Int)))), (6, (.int .i64 y_8)), (17, (.bool r_13))] ⟨h1, h2, h4, h5, h6, rfl⟩ ?_
      rintro s ⟨h1, h2, h4, h5, h6, h17⟩
      refine .nsq ?_
      refine run_cond (t := r_13) h17 h (fun h => ?_) (fun h => ?_)
      · refine run_reg ?_
        refine e_clr ?_
        refine e_end ?_
        refine g_v1 (t := 5) (u := (encO (.at 5 []) (.of (out_7 : List Int)))) (encO (.at 5 []) (.of (out_7 : List Int))) (keep_clear (s := s) (pk := [20, 21]) h5 rfl (map_encO (r := 5) (p := []) rfl rfl)) rfl rfl ?_
        refine g_v1 (t := 6) (u := (.int .i64 y_8)) (.int .i64 y_8) (keep_clear (s := s) (pk := [20, 21]) h6 rfl rfl) rfl rfl ?_
        refine g_litL [(19, (.int .i64 y_8))] [Enc.enc (y_8 : Int)] rfl rfl rfl (gone_clear (s := s) (pk := [20, 21]) (t := 20) rfl) ?_
        obtain ⟨ap_16, E_ap_16, h⟩ := bind_some h
        refine g_app (q := 5) (p := []) (o := (.of (out_7 : List Int))) (ys := ([y_8] : List Int)) (t2 := (.at 20 [])) (lo2 := 0) rfl rfl rfl (gone_clear (s := s) (pk := [20, 21]) (t := 21) rfl) (appN_L (o := (.of (out_7 : List Int))) E_ap_16 trivial) (fun s_20 ha_20 => ?_)
        refine g_v1 (t := 21) (u := (encO (.at 21 []) (.of (ap_16 : List Int)))) (encO (.at 21 []) (.of (ap_16 : List Int))) rfl rfl rfl ?_
        refine g_end ?_
        refine e_home (r := 21) (x := 5) (v := (encO (.at 21 []) (.of (ap_16 : List Int)))) (by exact rfl) rfl (fun s_21 hg_21 => ?_)
        refine e_end ?_
        refine renew [(1, (.int .i64 x_2)), (2, (.ref (.bx 2) 0 [] (.agg [(.int .i64 g_1.1), (Enc.enc (g_1.2 : List (Int × Int)))]))), (4, (.sl .nl (Enc.shp Int) 0 [])), (5, (encO (.at 5 []) (.of (ap_16 : List Int)))), (6, (.int .i64 y_8))] ⟨(hg_21 1 (.int .i64 x_2) (.int .i64 x_2) (show s_20 1 = (.int .i64 x_2) from keep_app ha_20 (keep_clear (s := s) (pk := [20, 21]) h1 rfl rfl) rfl) rfl), (hg_21 2 (.ref (.bx 2) 0 [] (.agg [(.int .i64 g_1.1), (Enc.enc (g_1.2 : List (Int × Int)))])) (.ref (.bx 2) 0 [] (.agg [(.int .i64 g_1.1), (Enc.enc (g_1.2 : List (Int × Int)))])) (show s_20 2 = (.ref (.bx 2) 0 [] (.agg [(.int .i64 g_1.1), (Enc.enc (g_1.2 : List (Int × Int)))])) from keep_app ha_20 (keep_clear (s := s) (pk := [20, 21]) h2 rfl (map_bx rfl (map_agg (maps_cons rfl (maps_cons (Enc.map_enc _ (g_1.2 : List (Int × Int))) maps_nil))))) (map_bx rfl (map_agg (maps_cons rfl (maps_cons (Enc.map_enc _ (g_1.2 : List (Int × Int))) maps_nil))))) (map_bx rfl (map_agg (maps_cons rfl (maps_cons (Enc.map_enc _ (g_1.2 : List (Int × Int))) maps_nil))))), (hg_21 4 (.sl .nl (Enc.shp Int) 0 []) (.sl .nl (Enc.shp Int) 0 []) (show s_20 4 = (.sl .nl (Enc.shp Int) 0 []) from keep_app ha_20 (keep_clear (s := s) (pk := [20, 21]) h4 rfl rfl) rfl) rfl), (hg_21 5 (encO (.at 21 []) (.of (ap_16 : List Int))) (encO (.at 5 []) (.of (ap_16 : List Int))) rfl (map_encO (r := 21) (p := []) rfl rfl)), (hg_21 6 (.int .i64 y_8) (.int .i64 y_8) (show s_20 6 = (.int .i64 y_8) from keep_app ha_20 (keep_clear (s := s) (pk := [20, 21]) h6 rfl rfl) rfl) rfl)⟩ ?_
        rintro s ⟨h1, h2, h4, h5, h6⟩
        exact t_f107_j1 H x_2 g_1 y_8 (s_l2Neighbors_l1 F x_2 g_1 k) ih ap_16 _ ⟨h1, h2, h4, h5, h6⟩ h
      · refine .skip ?_
        exact t_f107_j1 H x_2 g_1 y_8 (s_l2Neighbors_l1 F x_2 g_1 k) ih out_7 _ ⟨h1, h2, h4, h5, h6⟩ h
    · refine .exit ?_
      refine .esq ?_
      refine .elp ?_
      refine .ebk ?_
      refine .nsq ?_
      refine .seq ?_
      refine run_reg ?_
      refine e_end ?_
      refine g_v1 (t := 5) (u := (encO (.at 5 []) (.of (out_7 : List Int)))) (encO (.at 5 []) (.of (out_7 : List Int))) h5 rfl rfl ?_
      refine g_v1 (t := 22) (u := (encO (.at 5 []) (.of (out_7 : List Int)))) (encO (.at 5 []) (.of (out_7 : List Int))) rfl rfl rfl ?_
      refine g_end ?_
      refine e_home (r := 5) (x := 4) (v := (encO (.at 5 []) (.of (out_7 : List Int)))) (by exact rfl) rfl (fun s_22 hg_22 => ?_)
      refine e_end ?_
      refine renew [(4, (encO (.at 4 []) (.of (out_7 : List Int))))] (hg_22 4 (encO (.at 5 []) (.of (out_7 : List Int))) (encO (.at 4 []) (.of (out_7 : List Int))) rfl (map_encO (r := 5) (p := []) rfl rfl)) ?_
      rintro s h4
      refine .nsq ?_
      refine .ret ?_
      have hr := Option.some.inj h
      subst hr
      exact rrA (res_tmp h4) (fin_retF (fin_own (o := .of out_7)) (mine_own rfl))
def s_l2Neighbors (F : Nat) (g_1 : (Int × (List (Int × Int)))) (x_2 : Int) : Option (List Int) :=
  s_l2Neighbors_l1 F x_2 g_1 F [] 0
theorem t107 (H : H107 D σ F) (g_1 : (Int × (List (Int × Int)))) (x_2 : Int) (s : Nat → V) (hs : Facts [(0, (.agg [(.int .i64 g_1.1), (Enc.enc (g_1.2 : List (Int × Int)))])), (1, (.int .i64 x_2))] s) (h : s_l2Neighbors F g_1 x_2 = some r) : Run D σ (R107 r) (.run A107 []) s := by
  unfold s_l2Neighbors at h
  obtain ⟨h0, h1⟩ := hs
  refine .seq ?_
  refine run_reg ?_
  refine e_clr ?_
  refine e_end ?_
  refine g_box (.agg [(.int .i64 g_1.1), (Enc.enc (g_1.2 : List (Int × Int)))]) (rd_of (keep_clear (s := s) (pk := [2]) h0 rfl (map_agg (maps_cons rfl (maps_cons (Enc.map_enc _ (g_1.2 : List (Int × Int))) maps_nil)))) rfl) (gone_clear (s := s) (pk := [2]) (t := 2) rfl) rfl ?_
  refine g_v0 (.sl .nl (Enc.shp Int) 0 []) rfl rfl ?_
  refine g_end ?_
  refine e_end ?_
  refine renew [(1, (.int .i64 x_2)), (2, (.ref (.bx 2) 0 [] (.agg [(.int .i64 g_1.1), (Enc.enc (g_1.2 : List (Int × Int)))]))), (4, (.sl .nl (Enc.shp Int) 0 []))] ⟨(keep_clear (s := s) (pk := [2]) h1 rfl rfl), rfl, rfl⟩ ?_
  rintro s ⟨h1, h2, h4⟩
  refine .nsq ?_
  refine .seq ?_
  refine run_reg ?_
  refine e_clr ?_
  refine e_end ?_
  refine g_litL [] [] trivial rfl rfl (gone_clear (s := s) (pk := [7]) (t := 7) rfl) ?_
  refine g_v1 (t := 7) (u := (encO (.at 7 []) (.of ([] : List Int)))) (encO (.at 7 []) (.of ([] : List Int))) rfl rfl rfl ?_
  refine g_end ?_
  refine e_home (r := 7) (x := 5) (v := (encO (.at 7 []) (.of ([] : List Int)))) (by exact rfl) rfl (fun s_3 hg_3 => ?_)
  refine e_end ?_
  refine renew [(1, (.int .i64 x_2)), (2, (.ref (.bx 2) 0 [] (.agg [(.int .i64 g_1.1), (Enc.enc (g_1.2 : List (Int × Int)))]))), (4, (.sl .nl (Enc.shp Int) 0 [])), (5, (encO (.at 5 []) (.of ([] : List Int))))] ⟨(hg_3 1 (.int .i64 x_2) (.int .i64 x_2) (keep_clear (s := s) (pk := [7]) h1 rfl rfl) rfl), (hg_3 2 (.ref (.bx 2) 0 [] (.agg [(.int .i64 g_1.1), (Enc.enc (g_1.2 : List (Int × Int)))])) (.ref (.bx 2) 0 [] (.agg [(.int .i64 g_1.1), (Enc.enc (g_1.2 : List (Int × Int)))])) (keep_clear (s := s) (pk := [7]) h2 rfl (map_bx rfl (map_agg (maps_cons rfl (maps_cons (Enc.map_enc _ (g_1.2 : List (Int × Int))) maps_nil))))) (map_bx rfl (map_agg (maps_cons rfl (maps_cons (Enc.map_enc _ (g_1.2 : List (Int × Int))) maps_nil))))), (hg_3 4 (.sl .nl (Enc.shp Int) 0 []) (.sl .nl (Enc.shp Int) 0 []) (keep_clear (s := s) (pk := [7]) h4 rfl rfl) rfl), (hg_3 5 (encO (.at 7 []) (.of ([] : List Int))) (encO (.at 5 []) (.of ([] : List Int))) rfl (map_encO (r := 7) (p := []) rfl rfl))⟩ ?_
  rintro s ⟨h1, h2, h4, h5⟩
  refine .nsq ?_
  refine .seq ?_
  refine .seq ?_
  refine run_reg ?_
  refine e_end ?_
  refine g_v0 (.int .i64 0) rfl rfl ?_
  refine g_end ?_
  refine e_end ?_
  refine renew [(1, (.int .i64 x_2)), (2, (.ref (.bx 2) 0 [] (.agg [(.int .i64 g_1.1), (Enc.enc (g_1.2 : List (Int × Int)))]))), (4, (.sl .nl (Enc.shp Int) 0 [])), (5, (encO (.at 5 []) (.of ([] : List Int)))), (6, (.int .i64 0))] ⟨h1, h2, h4, h5, rfl⟩ ?_
  rintro s ⟨h1, h2, h4, h5, h6⟩
  refine .nsq ?_
  refine .block ?_
  refine .loop ?_
  exact t_f107_l1 H x_2 g_1 F [] 0 _ ⟨h1, h2, h4, h5, h6⟩ h
end
def e107 (F : Nat) : Ent := ⟨107, da (fun (x : ((Int × (List (Int × Int))) × Int × Unit)) => s_l2Neighbors F x.1 x.2.1) (fun (r : (List Int)) => (Enc.enc (r : (List Int)))), 0, false, selF []⟩
theorem p107 {F : Nat} {x0 : (Int × (List (Int × Int)))} {x1 : Int} {r : (List Int)} (h : s_l2Neighbors F x0 x1 = some r) : (e107 F).den [Enc.enc x0, Enc.enc x1] = some (Enc.enc (r : (List Int))) := da_put (f := fun (x : ((Int × (List (Int × Int))) × Int × Unit)) => s_l2Neighbors F x.1 x.2.1) (t := fun (r : (List Int)) => (Enc.enc (r : (List Int)))) (x0, x1, ()) h
theorem o107 {D : Den} {σ : Sig} {F : Nat} (hF : Fits2 Try.prog D σ) (H : H107 D σ F) : (e107 F).Ok Try.prog := by
  refine ok_of (f := 107) (show unk 107 = 107 from rfl) (fun args r h => ?_) ⟨Try.f107, Try.func107, rfl, rfl⟩
  obtain ⟨⟨x0, x1, _⟩, y, rfl, hy, rfl⟩ := da_open h
  exact contract_run hF (by kernel_rfl) Try.func107 rfl c107 (show 2 ≤ Try.f107.ntmps by decide) (t107 H x0 x1 _ ⟨rfl, rfl⟩ hy)
/- loop.example/g01109/spec.l1Has -/
def A68_2 : AC := (AC.cond (O.t 9) AC.skip (AC.exit 0))
def A68_4 : AC := (AC.cond (O.t 17) (AC.seq (AC.reg [] [(I.mk (some 4) none false (X.v (A.mov (O.k (V.bool true)))))] []) AC.ret) AC.skip)
def A68_5 : AC := (AC.reg [] [(I.mk (some 10) none false (X.v (A.mov (O.t 5)))), (I.mk (some 11) none false (X.v (A.bin BinOp.add (O.t 10) (O.k (V.int IntKind.i64 (Int.ofNat 1)))))), (I.mk (some 5) none false (X.v (A.mov (O.t 11))))] [])
def A68_3 : AC := (AC.seq (AC.block 1 (AC.seq (AC.reg [] [(I.mk (some 12) none false (X.v (A.mov (O.t 0)))), (I.mk (some 13) none false (X.v (A.mov (O.t 5)))), (I.mk (some 14) none false (X.v (A.idx (O.t 12) (O.t 13) 1))), (I.mk (some 15) none false (X.v (A.load Sh.s (O.t 14)))), (I.mk (some 16) none false (X.v (A.mov (O.t 1)))), (I.mk (some 17) none false (X.v (A.bin BinOp.eql (O.t 15) (O.t 16))))] []) A68_4)) A68_5)
def A68_1 : AC := (AC.seq (AC.seq (AC.reg [] [(I.mk (some 6) none false (X.v (A.mov (O.t 5)))), (I.mk (some 7) none false (X.v (A.mov (O.t 0)))), (I.mk (some 8) none false (X.v (A.len (O.t 7)))), (I.mk (some 9) none false (X.v (A.bin BinOp.lss (O.t 6) (O.t 8))))] []) A68_2) A68_3)
def A68_6 : AC := (AC.seq (AC.reg [] [(I.mk (some 4) none false (X.v (A.mov (O.k (V.bool false)))))] []) AC.ret)
def A68_8 : AC := (AC.block 0 (AC.loop A68_1))
def A68_7 : AC := (AC.seq (AC.seq (AC.reg [] [(I.mk (some 5) none false (X.v (A.mov (O.k (V.int IntKind.i64 (Int.ofNat 0))))))] []) A68_8) A68_6)
def A68 : AC := (AC.seq (AC.reg [] [(I.mk (some 4) none false (X.v (A.mov (O.k (V.bool false)))))] []) A68_7)
def an68 : List An := []
theorem c68 : cC Try.prog Try.f68.ntmps an68 (Try.f68.body.getD .skip) = some A68 := by kernel_rfl
structure H68 (D : Den) (σ : Sig) (F : Nat) : Prop where
  mk ::
abbrev R68 (r : Bool) : (Nat → V) → Prop := RR Try.prog [.tmp 4] 0 false (Enc.enc (r : Bool))
section
variable {D : Den} {σ : Sig} {F : Nat} {r : Bool}
def s_l1Has_l1 (F : Nat) (l_1 : (List Int)) (n_2 : Int)  : Nat → Int → Option Bool
  | 0, _ => none
  | k + 1, i_4 =>
    bif decide (i_4 < (l_1.length : Int)) then
      (idx l_1 i_4).bind fun e_6 =>
      bif (e_6 == n_2) then
        some true
      else
        (s_l1Has_l1 F l_1 n_2 k) (w64 (i_4 + 1))
    else
      some false
theorem t_f68_l1 (H : H68 D σ F) (l_1 : (List Int)) (n_2 : Int)  : ∀ (k : Nat) (i_4 : Int) (s : Nat → V), Facts [(0, (Enc.enc (l_1 : List Int))), (1, (.int .i64 n_2)), (4, (.bool false)), (5, (.int .i64 i_4))] s → s_l1Has_l1 F l_1 n_2 k i_4 = some r → Run D σ (R68 r) (.run A68_1 [.lp A68_1, .bk 0, .sq A68_6]) s := by
  intro k
  induction k with
  | zero => intro i_4 s _ h; exact nomatch (h : (none : Option _) = some r)
  | succ k ih =>
    intro i_4 s hs h
    rw [s_l1Has_l1] at h
    obtain ⟨h0, h1, h4, h5⟩ := hs
    refine .seq ?_
    refine .seq ?_
    refine run_reg ?_
    refine e_end ?_
    refine g_v1 (t := 5) (u := (.int .i64 i_4)) (.int .i64 i_4) h5 rfl rfl ?_
    refine g_v1 (t := 0) (u := (Enc.enc (l_1 : List Int))) (Enc.enc (l_1 : List Int)) h0 rfl rfl ?_
    refine g_v (.int .i64 (l_1.length : Int)) (ev_len (xs := l_1) rfl) ?_
    refine g_v2 (t1 := 6) (t2 := 8) (u1 := (.int .i64 i_4)) (u2 := (.int .i64 (l_1.length : Int))) (.bool (decide (i_4 < (l_1.length : Int)))) rfl rfl rfl rfl ?_
    refine g_end ?_
    refine e_end ?_
    refine renew [(0, (Enc.enc (l_1 : List Int))), (1, (.int .i64 n_2)), (4, (.bool false)), (5, (.int .i64 i_4)), (9, (.bool (decide (i_4 < (l_1.length : Int)))))] ⟨h0, h1, h4, h5, rfl⟩ ?_
    rintro s ⟨h0, h1, h4, h5, h9⟩
    refine .nsq ?_
    refine run_cond (t := decide (i_4 < (l_1.length : Int))) h9 h (fun h => ?_) (fun h => ?_)
    · refine .skip ?_
      refine .nsq ?_
      refine .seq ?_
      refine .block ?_
      refine .seq ?_
      refine run_reg ?_
      refine e_end ?_
      refine g_v1 (t := 0) (u := (Enc.enc (l_1 : List Int))) (Enc.enc (l_1 : List Int)) h0 rfl rfl ?_
      refine g_v1 (t := 5) (u := (.int .i64 i_4)) (.int .i64 i_4) h5 rfl rfl ?_
      obtain ⟨e_6, E_e_6, h⟩ := bind_some h
      refine g_v (.ref .sh 0 [] (.int .i64 e_6)) (ev_idx (t := .sh) (lo := 0) (xs := l_1) rfl rfl E_e_6 rfl rfl) ?_
      refine g_v1 (t := 14) (u := (.ref .sh 0 [] (.int .i64 e_6))) (.int .i64 e_6) rfl rfl rfl ?_
      refine g_v1 (t := 1) (u := (.int .i64 n_2)) (.int .i64 n_2) h1 rfl rfl ?_
      refine g_v2 (t1 := 15) (t2 := 16) (u1 := (.int .i64 e_6)) (u2 := (.int .i64 n_2)) (.bool (e_6 == n_2)) rfl rfl rfl rfl ?_
      refine g_end ?_
      refine e_end ?_
      refine renew [(0, (Enc.enc (l_1 : List Int))), (1, (.int .i64 n_2)), (4, (.bool false)), (5, (.int .i64 i_4)), (17, (.bool (e_6 == n_2)))] ⟨h0, h1, h4, h5, rfl⟩ ?_
      rintro s ⟨h0, h1, h4, h5, h17⟩
      refine .nsq ?_
      refine run_cond (t := (e_6 == n_2)) h17 h (fun h => ?_) (fun h => ?_)
      · refine .seq ?_
        refine run_reg ?_
        refine e_end ?_
        refine g_v0 (.bool true) rfl rfl ?_
        refine g_end ?_
        refine e_end ?_
        refine renew [(0, (Enc.enc (l_1 : List Int))), (1, (.int .i64 n_2)), (4, (.bool true)), (5, (.int .i64 i_4))] ⟨h0, h1, rfl, h5⟩ ?_
        rintro s ⟨h0, h1, h4, h5⟩
        refine .nsq ?_
        refine .ret ?_
        have hr := Option.some.inj h
        subst hr
        exact rrA (res_tmp h4) rfl
      · refine .skip ?_
        refine .nbk ?_
        refine .nsq ?_
        refine run_reg ?_
        refine e_end ?_
        refine g_v1 (t := 5) (u := (.int .i64 i_4)) (.int .i64 i_4) h5 rfl rfl ?_
        refine g_v1 (t := 10) (u := (.int .i64 i_4)) (.int .i64 (w64 (i_4 + 1))) rfl rfl rfl ?_
        refine g_v1 (t := 11) (u := (.int .i64 (w64 (i_4 + 1)))) (.int .i64 (w64 (i_4 + 1))) rfl rfl rfl ?_
        refine g_end ?_
        refine e_end ?_
        refine renew [(0, (Enc.enc (l_1 : List Int))), (1, (.int .i64 n_2)), (4, (.bool false)), (5, (.int .i64 (w64 (i_4 + 1))))] ⟨h0, h1, h4, rfl⟩ ?_
        rintro s ⟨h0, h1, h4, h5⟩
        refine .nlp ?_
        exact ih (w64 (i_4 + 1)) _ ⟨h0, h1, h4, h5⟩ h
    · refine .exit ?_
      refine .esq ?_
      refine .elp ?_
      refine .ebk ?_
      refine .nsq ?_
      refine .seq ?_
      refine run_reg ?_
      refine e_end ?_
      refine g_v0 (.bool false) rfl rfl ?_
      refine g_end ?_
      refine e_end ?_
      refine renew [(4, (.bool false))] rfl ?_
      rintro s h4
      refine .nsq ?_
      refine .ret ?_
      have hr := Option.some.inj h
      subst hr
      exact rrA (res_tmp h4) rfl
def s_l1Has (F : Nat) (l_1 : (List Int)) (n_2 : Int) : Option Bool :=
  s_l1Has_l1 F l_1 n_2 F 0
theorem t68 (H : H68 D σ F) (l_1 : (List Int)) (n_2 : Int) (s : Nat → V) (hs : Facts [(0, (Enc.enc (l_1 : List Int))), (1, (.int .i64 n_2))] s) (h : s_l1Has F l_1 n_2 = some r) : Run D σ (R68 r) (.run A68 []) s := by
  unfold s_l1Has at h
  obtain ⟨h0, h1⟩ := hs
  refine .seq ?_
  refine run_reg ?_
  refine e_end ?_
  refine g_v0 (.bool false) rfl rfl ?_
  refine g_end ?_
  refine e_end ?_
  refine renew [(0, (Enc.enc (l_1 : List Int))), (1, (.int .i64 n_2)), (4, (.bool false))] ⟨h0, h1, rfl⟩ ?_
  rintro s ⟨h0, h1, h4⟩
  refine .nsq ?_
  refine .seq ?_
  refine .seq ?_
  refine run_reg ?_
  refine e_end ?_
  refine g_v0 (.int .i64 0) rfl rfl ?_
  refine g_end ?_
  refine e_end ?_
  refine renew [(0, (Enc.enc (l_1 : List Int))), (1, (.int .i64 n_2)), (4, (.bool false)), (5, (.int .i64 0))] ⟨h0, h1, h4, rfl⟩ ?_
  rintro s ⟨h0, h1, h4, h5⟩
  refine .nsq ?_
  refine .block ?_
  refine .loop ?_
  exact t_f68_l1 H l_1 n_2 F 0 _ ⟨h0, h1, h4, h5⟩ h
end
def e68 (F : Nat) : Ent := ⟨68, da (fun (x : ((List Int) × Int × Unit)) => s_l1Has F x.1 x.2.1) (fun (r : Bool) => (Enc.enc (r : Bool))), 0, false, selF []⟩
theorem p68 {F : Nat} {x0 : (List Int)} {x1 : Int} {r : Bool} (h : s_l1Has F x0 x1 = some r) : (e68 F).den [Enc.enc x0, Enc.enc x1] = some (Enc.enc (r : Bool)) := da_put (f := fun (x : ((List Int) × Int × Unit)) => s_l1Has F x.1 x.2.1) (t := fun (r : Bool) => (Enc.enc (r : Bool))) (x0, x1, ()) h
theorem o68 {D : Den} {σ : Sig} {F : Nat} (hF : Fits2 Try.prog D σ) (H : H68 D σ F) : (e68 F).Ok Try.prog := by
  refine ok_of (f := 68) (show unk 68 = 68 from rfl) (fun args r h => ?_) ⟨Try.f68, Try.func68, rfl, rfl⟩
  obtain ⟨⟨x0, x1, _⟩, y, rfl, hy, rfl⟩ := da_open h
  exact contract_run hF (by kernel_rfl) Try.func68 rfl c68 (show 2 ≤ Try.f68.ntmps by decide) (t68 H x0 x1 _ ⟨rfl, rfl⟩ hy)
/- loop.example/g01109/spec.l7Place -/
def A124_2 : AC := (AC.cond (O.t 11) AC.skip (AC.exit 0))
def A124_3 : AC := (AC.block 1 (AC.reg [] [(I.mk (some 12) none false (X.v (A.mov (O.t 5)))), (I.mk (some 13) none false (X.v (A.bin BinOp.add (O.t 12) (O.k (V.int IntKind.i64 (Int.ofNat 1)))))), (I.mk (some 5) none false (X.v (A.mov (O.t 13))))] []))
def A124_1 : AC := (AC.seq (AC.seq (AC.reg [] [(I.mk (some 6) none false (X.v (A.mov (O.t 0)))), (I.mk (some 7) none false (X.v (A.mov (O.t 5)))), (I.mk (some 8) none false (X.v (A.idx (O.t 6) (O.t 7) 1))), (I.mk (some 9) none false (X.v (A.load Sh.s (O.t 8)))), (I.mk (some 10) none false (X.v (A.mov (O.t 1)))), (I.mk (some 11) none false (X.v (A.bin BinOp.neq (O.t 9) (O.t 10))))] []) A124_2) A124_3)
def A124_4 : AC := (AC.seq (AC.reg [] [(I.mk (some 14) none false (X.v (A.mov (O.t 5)))), (I.mk (some 4) none false (X.v (A.mov (O.t 14))))] []) AC.ret)
def A124_6 : AC := (AC.seq (AC.block 0 (AC.loop A124_1)) A124_4)
def A124_5 : AC := (AC.seq (AC.reg [] [(I.mk (some 5) none false (X.v (A.mov (O.k (V.int IntKind.i64 (Int.ofNat 0))))))] []) A124_6)
def A124 : AC := (AC.seq (AC.reg [] [(I.mk (some 4) none false (X.v (A.mov (O.k (V.int IntKind.i64 (Int.ofNat 0))))))] []) A124_5)
def an124 : List An := []
theorem c124 : cC Try.prog Try.f124.ntmps an124 (Try.f124.body.getD .skip) = some A124 := by kernel_rfl
structure H124 (D : Den) (σ : Sig) (F : Nat) : Prop where
  mk ::
abbrev R124 (r : Int) : (Nat → V) → Prop := RR Try.prog [.tmp 4] 0 false (Enc.enc (r : Int))
section
variable {D : Den} {σ : Sig} {F : Nat} {r : Int}
def s_l7Place_l1 (F : Nat) (order_1 : (List Int)) (x_2 : Int)  : Nat → Int → Option Int
  | 0, _ => none
  | k + 1, at_4 =>
    (idx order_1 at_4).bind fun e_6 =>
    bif (e_6 != x_2) then
      (s_l7Place_l1 F order_1 x_2 k) (w64 (at_4 + 1))
    else
      some at_4
theorem t_f124_l1 (H : H124 D σ F) (order_1 : (List Int)) (x_2 : Int)  : ∀ (k : Nat) (at_4 : Int) (s : Nat → V), Facts [(0, (Enc.enc (order_1 : List Int))), (1, (.int .i64 x_2)), (4, (.int .i64 0)), (5, (.int .i64 at_4))] s → s_l7Place_l1 F order_1 x_2 k at_4 = some r → Run D σ (R124 r) (.run A124_1 [.lp A124_1, .bk 0, .sq A124_4]) s := by
  intro k
  induction k with
  | zero => intro at_4 s _ h; exact nomatch (h : (none : Option _) = some r)
  | succ k ih =>
    intro at_4 s hs h
    rw [s_l7Place_l1] at h
    obtain ⟨h0, h1, h4, h5⟩ := hs
    refine .seq ?_
    refine .seq ?_
    refine run_reg ?_
    refine e_end ?_
    refine g_v1 (t := 0) (u := (Enc.enc (order_1 : List Int))) (Enc.enc (order_1 : List Int)) h0 rfl rfl ?_
    refine g_v1 (t := 5) (u := (.int .i64 at_4)) (.int .i64 at_4) h5 rfl rfl ?_
    obtain ⟨e_6, E_e_6, h⟩ := bind_some h
    refine g_v (.ref .sh 0 [] (.int .i64 e_6)) (ev_idx (t := .sh) (lo := 0) (xs := order_1) rfl rfl E_e_6 rfl rfl) ?_
    refine g_v1 (t := 8) (u := (.ref .sh 0 [] (.int .i64 e_6))) (.int .i64 e_6) rfl rfl rfl ?_
    refine g_v1 (t := 1) (u := (.int .i64 x_2)) (.int .i64 x_2) h1 rfl rfl ?_
    refine g_v2 (t1 := 9) (t2 := 10) (u1 := (.int .i64 e_6)) (u2 := (.int .i64 x_2)) (.bool (e_6 != x_2)) rfl rfl rfl rfl ?_
    refine g_end ?_
    refine e_end ?_
    refine renew [(0, (Enc.enc (order_1 : List Int))), (1, (.int .i64 x_2)), (4, (.int .i64 0)), (5, (.int .i64 at_4)), (11, (.bool (e_6 != x_2)))] ⟨h0, h1, h4, h5, rfl⟩ ?_
    rintro s ⟨h0, h1, h4, h5, h11⟩
    refine .nsq ?_
    refine run_cond (t := (e_6 != x_2)) h11 h (fun h => ?_) (fun h => ?_)
    · refine .skip ?_
      refine .nsq ?_
      refine .block ?_
      refine run_reg ?_
      refine e_end ?_
      refine g_v1 (t := 5) (u := (.int .i64 at_4)) (.int .i64 at_4) h5 rfl rfl ?_
      refine g_v1 (t := 12) (u := (.int .i64 at_4)) (.int .i64 (w64 (at_4 + 1))) rfl rfl rfl ?_
      refine g_v1 (t := 13) (u := (.int .i64 (w64 (at_4 + 1)))) (.int .i64 (w64 (at_4 + 1))) rfl rfl rfl ?_
      refine g_end ?_
      refine e_end ?_
      refine renew [(0, (Enc.enc (order_1 : List Int))), (1, (.int .i64 x_2)), (4, (.int .i64 0)), (5, (.int .i64 (w64 (at_4 + 1))))] ⟨h0, h1, h4, rfl⟩ ?_
      rintro s ⟨h0, h1, h4, h5⟩
      refine .nbk ?_
      refine .nlp ?_
      exact ih (w64 (at_4 + 1)) _ ⟨h0, h1, h4, h5⟩ h
    · refine .exit ?_
      refine .esq ?_
      refine .elp ?_
      refine .ebk ?_
      refine .nsq ?_
      refine .seq ?_
      refine run_reg ?_
      refine e_end ?_
      refine g_v1 (t := 5) (u := (.int .i64 at_4)) (.int .i64 at_4) h5 rfl rfl ?_
      refine g_v1 (t := 14) (u := (.int .i64 at_4)) (.int .i64 at_4) rfl rfl rfl ?_
      refine g_end ?_
      refine e_end ?_
      refine renew [(4, (.int .i64 at_4))] rfl ?_
      rintro s h4
      refine .nsq ?_
      refine .ret ?_
      have hr := Option.some.inj h
      subst hr
      exact rrA (res_tmp h4) rfl
def s_l7Place (F : Nat) (order_1 : (List Int)) (x_2 : Int) : Option Int :=
  s_l7Place_l1 F order_1 x_2 F 0
theorem t124 (H : H124 D σ F) (order_1 : (List Int)) (x_2 : Int) (s : Nat → V) (hs : Facts [(0, (Enc.enc (order_1 : List Int))), (1, (.int .i64 x_2))] s) (h : s_l7Place F order_1 x_2 = some r) : Run D σ (R124 r) (.run A124 []) s := by
  unfold s_l7Place at h
  obtain ⟨h0, h1⟩ := hs
  refine .seq ?_
  refine run_reg ?_
  refine e_end ?_
  refine g_v0 (.int .i64 0) rfl rfl ?_
  refine g_end ?_
  refine e_end ?_
  refine renew [(0, (Enc.enc (order_1 : List Int))), (1, (.int .i64 x_2)), (4, (.int .i64 0))] ⟨h0, h1, rfl⟩ ?_
  rintro s ⟨h0, h1, h4⟩
  refine .nsq ?_
  refine .seq ?_
  refine run_reg ?_
  refine e_end ?_
  refine g_v0 (.int .i64 0) rfl rfl ?_
  refine g_end ?_
  refine e_end ?_
  refine renew [(0, (Enc.enc (order_1 : List Int))), (1, (.int .i64 x_2)), (4, (.int .i64 0)), (5, (.int .i64 0))] ⟨h0, h1, h4, rfl⟩ ?_
  rintro s ⟨h0, h1, h4, h5⟩
  refine .nsq ?_
  refine .seq ?_
  refine .block ?_
  refine .loop ?_
  exact t_f124_l1 H order_1 x_2 F 0 _ ⟨h0, h1, h4, h5⟩ h
end
def e124 (F : Nat) : Ent := ⟨124, da (fun (x : ((List Int) × Int × Unit)) => s_l7Place F x.1 x.2.1) (fun (r : Int) => (Enc.enc (r : Int))), 0, false, selF []⟩
theorem p124 {F : Nat} {x0 : (List Int)} {x1 : Int} {r : Int} (h : s_l7Place F x0 x1 = some r) : (e124 F).den [Enc.enc x0, Enc.enc x1] = some (Enc.enc (r : Int)) := da_put (f := fun (x : ((List Int) × Int × Unit)) => s_l7Place F x.1 x.2.1) (t := fun (r : Int) => (Enc.enc (r : Int))) (x0, x1, ()) h
theorem o124 {D : Den} {σ : Sig} {F : Nat} (hF : Fits2 Try.prog D σ) (H : H124 D σ F) : (e124 F).Ok Try.prog := by
  refine ok_of (f := 124) (show unk 124 = 124 from rfl) (fun args r h => ?_) ⟨Try.f124, Try.func124, rfl, rfl⟩
  obtain ⟨⟨x0, x1, _⟩, y, rfl, hy, rfl⟩ := da_open h
  exact contract_run hF (by kernel_rfl) Try.func124 rfl c124 (show 2 ≤ Try.f124.ntmps by decide) (t124 H x0 x1 _ ⟨rfl, rfl⟩ hy)
/- loop.example/g01109/spec.l7Fits -/
def A115_2 : AC := (AC.cond (O.t 14) AC.skip (AC.exit 0))
def A115_7 : AC := (AC.cond (O.t 26) AC.skip (AC.exit 2))
def A115_10 : AC := (AC.cond (O.t 36) (AC.reg [] [(I.mk (some 37) none false (X.v (A.mov (O.t 1)))), (I.mk (some 38) none false (X.v (A.mov (O.t 8)))), (I.mk (some 39) none false (X.v (A.mov (O.t 9)))), (I.mk (some 40) none false (X.v (A.idx (O.t 38) (O.t 39) 1))), (I.mk (some 41) none false (X.v (A.load Sh.s (O.t 40)))), (I.mk (some 42) none false (X.call (O.k (V.fn 124 [] [])) [(O.t 37), (O.t 41)])), (I.mk (some 10) none false (X.v (A.mov (O.t 42))))] []) AC.skip)
def A115_12 : AC := (AC.cond (O.t 47) (AC.seq (AC.reg [] [(I.mk (some 6) none false (X.v (A.mov (O.k (V.bool false)))))] []) AC.ret) AC.skip)
def A115_11 : AC := (AC.seq (AC.reg [] [(I.mk (some 43) none false (X.v (A.mov (O.t 10)))), (I.mk (some 44) none false (X.v (A.mov (O.t 7)))), (I.mk (some 45) none false (X.v (A.bin BinOp.sub (O.t 43) (O.t 44)))), (I.mk (some 46) none false (X.v (A.mov (O.t 2)))), (I.mk (some 47) none false (X.v (A.bin BinOp.gtr (O.t 45) (O.t 46))))] []) A115_12)
def A115_9 : AC := (AC.seq (AC.seq (AC.reg [] [(I.mk (some 31) none false (X.v (A.mov (O.t 1)))), (I.mk (some 32) none false (X.v (A.mov (O.t 8)))), (I.mk (some 33) none false (X.v (A.mov (O.t 9)))), (I.mk (some 34) none false (X.v (A.idx (O.t 32) (O.t 33) 1))), (I.mk (some 35) none false (X.v (A.load Sh.s (O.t 34)))), (I.mk (some 36) none false (X.call (O.k (V.fn 68 [] [])) [(O.t 31), (O.t 35)]))] []) A115_10) A115_11)
def A115_13 : AC := (AC.reg [] [(I.mk (some 27) none false (X.v (A.mov (O.t 9)))), (I.mk (some 28) none false (X.v (A.bin BinOp.add (O.t 27) (O.k (V.int IntKind.i64 (Int.ofNat 1)))))), (I.mk (some 9) none false (X.v (A.mov (O.t 28))))] [])
def A115_8 : AC := (AC.seq (AC.block 3 (AC.seq (AC.reg [] [(I.mk (some 29) none false (X.v (A.mov (O.t 1)))), (I.mk (some 30) none false (X.v (A.len (O.t 29)))), (I.mk (some 10) none false (X.v (A.mov (O.t 30))))] []) A115_9)) A115_13)
def A115_6 : AC := (AC.seq (AC.seq (AC.reg [] [(I.mk (some 23) none false (X.v (A.mov (O.t 9)))), (I.mk (some 24) none false (X.v (A.mov (O.t 8)))), (I.mk (some 25) none false (X.v (A.len (O.t 24)))), (I.mk (some 26) none false (X.v (A.bin BinOp.lss (O.t 23) (O.t 25))))] []) A115_7) A115_8)
def A115_5 : AC := (AC.block 2 (AC.loop A115_6))
def A115_4 : AC := (AC.seq (AC.reg [] [(I.mk (some 9) none false (X.v (A.mov (O.k (V.int IntKind.i64 (Int.ofNat 0))))))] []) A115_5)
def A115_14 : AC := (AC.reg [] [(I.mk (some 15) none false (X.v (A.mov (O.t 7)))), (I.mk (some 16) none false (X.v (A.bin BinOp.add (O.t 15) (O.k (V.int IntKind.i64 (Int.ofNat 1)))))), (I.mk (some 7) none false (X.v (A.mov (O.t 16))))] [])
def A115_3 : AC := (AC.seq (AC.block 1 (AC.seq (AC.reg [] [(I.mk (some 17) none false (X.v (A.load (Sh.ag [Sh.s, Sh.p]) (O.t 3)))), (I.mk (some 18) none false (X.v (A.mov (O.t 1)))), (I.mk (some 19) none false (X.v (A.mov (O.t 7)))), (I.mk (some 20) none false (X.v (A.idx (O.t 18) (O.t 19) 1))), (I.mk (some 21) none false (X.v (A.load Sh.s (O.t 20)))), (I.mk (some 22) none false (X.call (O.k (V.fn 107 [] [])) [(O.t 17), (O.t 21)])), (I.mk (some 8) none false (X.v (A.mov (O.t 22))))] []) A115_4)) A115_14)
def A115_1 : AC := (AC.seq (AC.seq (AC.reg [] [(I.mk (some 11) none false (X.v (A.mov (O.t 7)))), (I.mk (some 12) none false (X.v (A.mov (O.t 1)))), (I.mk (some 13) none false (X.v (A.len (O.t 12)))), (I.mk (some 14) none false (X.v (A.bin BinOp.lss (O.t 11) (O.t 13))))] []) A115_2) A115_3)
def A115_15 : AC := (AC.seq (AC.reg [] [(I.mk (some 6) none false (X.v (A.mov (O.k (V.bool true)))))] []) AC.ret)
def A115_17 : AC := (AC.block 0 (AC.loop A115_1))
def A115_16 : AC := (AC.seq (AC.seq (AC.reg [] [(I.mk (some 7) none false (X.v (A.mov (O.k (V.int IntKind.i64 (Int.ofNat 0))))))] []) A115_17) A115_15)
def A115 : AC := (AC.seq (AC.reg [.clr [3]] [(I.mk (some 3) none false (X.box (O.t 0))), (I.mk (some 6) none false (X.v (A.mov (O.k (V.bool false)))))] []) A115_16)
def an115 : List An := [{ id := 0, pre := [.clr [3]], ep := [], lin := [], sp := [] }]
theorem c115 : cC Try.prog Try.f115.ntmps an115 (Try.f115.body.getD .skip) = some A115 := by kernel_rfl
structure H115 (D : Den) (σ : Sig) (F : Nat) : Prop where
  c107 : ∀ (x0 : (Int × (List (Int × Int)))) (x1 : Int) r, s_l2Neighbors F x0 x1 = some r → D 107 [Enc.enc x0, Enc.enc x1] = some (Enc.enc (r : (List Int)))
  g107 : σ 107 = some (0, false)
  c68 : ∀ (x0 : (List Int)) (x1 : Int) r, s_l1Has F x0 x1 = some r → D 68 [Enc.enc x0, Enc.enc x1] = some (Enc.enc (r : Bool))
  g68 : σ 68 = some (0, false)
  c124 : ∀ (x0 : (List Int)) (x1 : Int) r, s_l7Place F x0 x1 = some r → D 124 [Enc.enc x0, Enc.enc x1] = some (Enc.enc (r : Int))
  g124 : σ 124 = some (0, false)
abbrev R115 (r : Bool) : (Nat → V) → Prop := RR Try.prog [.tmp 6] 0 false (Enc.enc (r : Bool))
section
variable {D : Den} {σ : Sig} {F : Nat} {r : Bool}
def s_l7Fits_j1 (F : Nat) (begun_2 : (List Int)) (width_3 : Int) (g_1 : (Int × (List (Int × Int)))) (i_28 : Int) (r_54 : (List Int)) (k_62 : Int) (c1 : Int → Option Bool) (c4 : Int → Option Bool) (at_74 : Int) : Option Bool :=
  bif decide ((w64 (at_74 - i_28)) > width_3) then
    some false
  else
    c4 (w64 (k_62 + 1))
theorem t_f115_j1 (H : H115 D σ F) (begun_2 : (List Int)) (width_3 : Int) (g_1 : (Int × (List (Int × Int)))) (i_28 : Int) (r_54 : (List Int)) (k_62 : Int) (c1 : Int → Option Bool) (Hc1 : ∀ (i_28 : Int) (s : Nat → V), Facts [(1, (Enc.enc (begun_2 : List Int))), (2, (.int .i64 width_3)), (3, (.ref (.bx 3) 0 [] (.agg [(.int .i64 g_1.1), (Enc.enc (g_1.2 : List (Int × Int)))]))), (6, (.bool false)), (7, (.int .i64 i_28))] s → c1 i_28 = some r → Run D σ (R115 r) (.run A115_1 [.lp A115_1, .bk 0, .sq A115_15]) s) (c4 : Int → Option Bool) (Hc4 : ∀ (k_62 : Int) (s : Nat → V), Facts [(1, (Enc.enc (begun_2 : List Int))), (2, (.int .i64 width_3)), (3, (.ref (.bx 3) 0 [] (.agg [(.int .i64 g_1.1), (Enc.enc (g_1.2 : List (Int × Int)))]))), (6, (.bool false)), (7, (.int .i64 i_28)), (8, (Enc.enc (r_54 : List Int))), (9, (.int .i64 k_62))] s → c4 k_62 = some r → Run D σ (R115 r) (.run A115_6 [.lp A115_6, .bk 2, .bk 1, .sq A115_14, .lp A115_1, .bk 0, .sq A115_15]) s) (at_74 : Int) (s : Nat → V) (hs : Facts [(1, (Enc.enc (begun_2 : List Int))), (2, (.int .i64 width_3)), (3, (.ref (.bx 3) 0 [] (.agg [(.int .i64 g_1.1), (Enc.enc (g_1.2 : List (Int × Int)))]))), (6, (.bool false)), (7, (.int .i64 i_28)), (8, (Enc.enc (r_54 : List Int))), (9, (.int .i64 k_62)), (10, (.int .i64 at_74))] s) (h : s_l7Fits_j1 F begun_2 width_3 g_1 i_28 r_54 k_62 c1 c4 at_74 = some r) : Run D σ (R115 r) (.nrm [.sq A115_11, .bk 3, .sq A115_13, .lp A115_6, .bk 2, .bk 1, .sq A115_14, .lp A115_1, .bk 0, .sq A115_15]) s := by
  unfold s_l7Fits_j1 at h
  obtain ⟨h1, h2, h3, h6, h7, h8, h9, h10⟩ := hs
  refine .nsq ?_
  refine .seq ?_
  refine run_reg ?_
  refine e_end ?_
  refine g_v1 (t := 10) (u := (.int .i64 at_74)) (.int .i64 at_74) h10 rfl rfl ?_
  refine g_v1 (t := 7) (u := (.int .i64 i_28)) (.int .i64 i_28) h7 rfl rfl ?_
  refine g_v2 (t1 := 43) (t2 := 44) (u1 := (.int .i64 at_74)) (u2 := (.int .i64 i_28)) (.int .i64 (w64 (at_74 - i_28))) rfl rfl rfl rfl ?_
  refine g_v1 (t := 2) (u := (.int .i64 width_3)) (.int .i64 width_3) h2 rfl rfl ?_
  refine g_v2 (t1 := 45) (t2 := 46) (u1 := (.int .i64 (w64 (at_74 - i_28)))) (u2 := (.int .i64 width_3)) (.bool (decide ((w64 (at_74 - i_28)) > width_3))) rfl rfl rfl rfl ?_
  refine g_end ?_
  refine e_end ?_
  refine renew [(1, (Enc.enc (begun_2 : List Int))), (2, (.int .i64 width_3)), (3, (.ref (.bx 3) 0 [] (.agg [(.int .i64 g_1.1), (Enc.enc (g_1.2 : List (Int × Int)))]))), (6, (.bool false)), (7, (.int .i64 i_28)), (8, (Enc.enc (r_54 : List Int))), (9, (.int .i64 k_62)), (47, (.bool (decide ((w64 (at_74 - i_28)) > width_3))))] ⟨h1, h2, h3, h6, h7, h8, h9, rfl⟩ ?_
  rintro s ⟨h1, h2, h3, h6, h7, h8, h9, h47⟩
  refine .nsq ?_
  refine run_cond (t := decide ((w64 (at_74 - i_28)) > width_3)) h47 h (fun h => ?_) (fun h => ?_)
  · refine .seq ?_
    refine run_reg ?_
    refine e_end ?_
    refine g_v0 (.bool false) rfl rfl ?_
    refine g_end ?_
    refine e_end ?_
    refine renew [(1, (Enc.enc (begun_2 : List Int))), (2, (.int .i64 width_3)), (3, (.ref (.bx 3) 0 [] (.agg [(.int .i64 g_1.1), (Enc.enc (g_1.2 : List (Int × Int)))]))), (6, (.bool false)), (7, (.int .i64 i_28)), (8, (Enc.enc (r_54 : List Int))), (9, (.int .i64 k_62))] ⟨h1, h2, h3, rfl, h7, h8, h9⟩ ?_
    rintro s ⟨h1, h2, h3, h6, h7, h8, h9⟩
    refine .nsq ?_
    refine .ret ?_
    have hr := Option.some.inj h
    subst hr
    exact rrA (res_tmp h6) rfl
  · refine .skip ?_
    refine .nbk ?_
    refine .nsq ?_
    refine run_reg ?_
    refine e_end ?_
    refine g_v1 (t := 9) (u := (.int .i64 k_62)) (.int .i64 k_62) h9 rfl rfl ?_
    refine g_v1 (t := 27) (u := (.int .i64 k_62)) (.int .i64 (w64 (k_62 + 1))) rfl rfl rfl ?_
    refine g_v1 (t := 28) (u := (.int .i64 (w64 (k_62 + 1)))) (.int .i64 (w64 (k_62 + 1))) rfl rfl rfl ?_
    refine g_end ?_
    refine e_end ?_
    refine renew [(1, (Enc.enc (begun_2 : List Int))), (2, (.int .i64 width_3)), (3, (.ref (.bx 3) 0 [] (.agg [(.int .i64 g_1.1), (Enc.enc (g_1.2 : List (Int × Int)))]))), (6, (.bool false)), (7, (.int .i64 i_28)), (8, (Enc.enc (r_54 : List Int))), (9, (.int .i64 (w64 (k_62 + 1))))] ⟨h1, h2, h3, h6, h7, h8, rfl⟩ ?_
    rintro s ⟨h1, h2, h3, h6, h7, h8, h9⟩
    refine .nlp ?_
    exact Hc4 (w64 (k_62 + 1)) _ ⟨h1, h2, h3, h6, h7, h8, h9⟩ h
def s_l7Fits_l1 (F : Nat) (begun_2 : (List Int)) (width_3 : Int) (g_1 : (Int × (List (Int × Int)))) (i_28 : Int) (r_54 : (List Int)) (c1 : Int → Option Bool) : Nat → Int → Option Bool
  | 0, _ => none
  | k + 1, k_62 =>
    bif decide (k_62 < (r_54.length : Int)) then
      (idx r_54 k_62).bind fun e_70 =>
      (s_l1Has F begun_2 e_70).bind fun r_71 =>
      bif r_71 then
        (idx r_54 k_62).bind fun e_75 =>
        (s_l7Place F begun_2 e_75).bind fun r_76 =>
        s_l7Fits_j1 F begun_2 width_3 g_1 i_28 r_54 k_62 c1 (s_l7Fits_l1 F begun_2 width_3 g_1 i_28 r_54 c1 k) r_76
      else
        s_l7Fits_j1 F begun_2 width_3 g_1 i_28 r_54 k_62 c1 (s_l7Fits_l1 F begun_2 width_3 g_1 i_28 r_54 c1 k) (begun_2.length : Int)
    else
      c1 (w64 (i_28 + 1))
theorem t_f115_l1 (H : H115 D σ F) (begun_2 : (List Int)) (width_3 : Int) (g_1 : (Int × (List (Int × Int)))) (i_28 : Int) (r_54 : (List Int)) (c1 : Int → Option Bool) (Hc1 : ∀ (i_28 : Int) (s : Nat → V), Facts [(1, (Enc.enc (begun_2 : List Int))), (2, (.int .i64 width_3)), (3, (.ref (.bx 3) 0 [] (.agg [(.int .i64 g_1.1), (Enc.enc (g_1.2 : List (Int × Int)))]))), (6, (.bool false)), (7, (.int .i64 i_28))] s → c1 i_28 = some r → Run D σ (R115 r) (.run A115_1 [.lp A115_1, .bk 0, .sq A115_15]) s) : ∀ (k : Nat) (k_62 : Int) (s : Nat → V), Facts [(1, (Enc.enc (begun_2 : List Int))), (2, (.int .i64 width_3)), (3, (.ref (.bx 3) 0 [] (.agg [(.int .i64 g_1.1), (Enc.enc (g_1.2 : List (Int × Int)))]))), (6, (.bool false)), (7, (.int .i64 i_28)), (8, (Enc.enc (r_54 : List Int))), (9, (.int .i64 k_62))] s → s_l7Fits_l1 F begun_2 width_3 g_1 i_28 r_54 c1 k k_62 = some r → Run D σ (R115 r) (.run A115_6 [.lp A115_6, .bk 2, .bk 1, .sq A115_14, .lp A115_1, .bk 0, .sq A115_15]) s := by
  intro k
  induction k with
  | zero => intro k_62 s _ h; exact nomatch (h : (none : Option _) = some r)
  | succ k ih =>
    intro k_62 s hs h
    rw [s_l7Fits_l1] at h
    obtain ⟨h1, h2, h3, h6, h7, h8, h9⟩ := hs
    refine .seq ?_
    refine .seq ?_
    refine run_reg ?_
    refine e_end ?_
    refine g_v1 (t := 9) (u := (.int .i64 k_62)) (.int .i64 k_62) h9 rfl rfl ?_
    refine g_v1 (t := 8) (u := (Enc.enc (r_54 : List Int))) (Enc.enc (r_54 : List Int)) h8 rfl rfl ?_
    refine g_v (.int .i64 (r_54.length : Int)) (ev_len (xs := r_54) rfl) ?_
    refine g_v2 (t1 := 23) (t2 := 25) (u1 := (.int .i64 k_62)) (u2 := (.int .i64 (r_54.length : Int))) (.bool (decide (k_62 < (r_54.length : Int)))) rfl rfl rfl rfl ?_
    refine g_end ?_
    refine e_end ?_
    refine renew [(1, (Enc.enc (begun_2 : List Int))), (2, (.int .i64 width_3)), (3, (.ref (.bx 3) 0 [] (.agg [(.int .i64 g_1.1), (Enc.enc (g_1.2 : List (Int × Int)))]))), (6, (.bool false)), (7, (.int .i64 i_28)), (8, (Enc.enc (r_54 : List Int))), (9, (.int .i64 k_62)), (26, (.bool (decide (k_62 < (r_54.length : Int)))))] ⟨h1, h2, h3, h6, h7, h8, h9, rfl⟩ ?_
    rintro s ⟨h1, h2, h3, h6, h7, h8, h9, h26⟩
    refine .nsq ?_
    refine run_cond (t := decide (k_62 < (r_54.length : Int))) h26 h (fun h => ?_) (fun h => ?_)
    · refine .skip ?_
      refine .nsq ?_
      refine .seq ?_
      refine .block ?_
      refine .seq ?_
      refine run_reg ?_
      refine e_end ?_
      refine g_v1 (t := 1) (u := (Enc.enc (begun_2 : List Int))) (Enc.enc (begun_2 : List Int)) h1 rfl rfl ?_
      refine g_v (.int .i64 (begun_2.length : Int)) (ev_len (xs := begun_2) rfl) ?_
      refine g_v1 (t := 30) (u := (.int .i64 (begun_2.length : Int))) (.int .i64 (begun_2.length : Int)) rfl rfl rfl ?_
      refine g_end ?_
      refine e_end ?_
      refine renew [(1, (Enc.enc (begun_2 : List Int))), (2, (.int .i64 width_3)), (3, (.ref (.bx 3) 0 [] (.agg [(.int .i64 g_1.1), (Enc.enc (g_1.2 : List (Int × Int)))]))), (6, (.bool false)), (7, (.int .i64 i_28)), (8, (Enc.enc (r_54 : List Int))), (9, (.int .i64 k_62)), (10, (.int .i64 (begun_2.length : Int)))] ⟨h1, h2, h3, h6, h7, h8, h9, rfl⟩ ?_
      rintro s ⟨h1, h2, h3, h6, h7, h8, h9, h10⟩
      refine .nsq ?_
      refine .seq ?_
      refine .seq ?_
      refine run_reg ?_
      refine e_end ?_
      refine g_v1 (t := 1) (u := (Enc.enc (begun_2 : List Int))) (Enc.enc (begun_2 : List Int)) h1 rfl rfl ?_
      refine g_v1 (t := 8) (u := (Enc.enc (r_54 : List Int))) (Enc.enc (r_54 : List Int)) h8 rfl rfl ?_
      refine g_v1 (t := 9) (u := (.int .i64 k_62)) (.int .i64 k_62) h9 rfl rfl ?_
      obtain ⟨e_70, E_e_70, h⟩ := bind_some h
      refine g_v (.ref .sh 0 [] (.int .i64 e_70)) (ev_idx (t := .sh) (lo := 0) (xs := r_54) rfl rfl E_e_70 rfl rfl) ?_
      refine g_v1 (t := 34) (u := (.ref .sh 0 [] (.int .i64 e_70))) (.int .i64 e_70) rfl rfl rfl ?_
      obtain ⟨r_71, E_r_71, h⟩ := bind_some h
      refine g_call (m := 0) (al := false) (r := (Enc.enc (r_71 : Bool))) [Enc.enc (begun_2 : (List Int)), Enc.enc (e_70 : Int)] (ta_cons (v := (Enc.enc (begun_2 : List Int))) rfl rfl (Enc.erase_enc (begun_2 : (List Int))) (ta_cons (v := (.int .i64 e_70)) rfl rfl rfl ta_nil)) (H.c68 _ _ _ E_r_71) H.g68 rfl rfl rfl rfl ?_
      refine g_end ?_
      refine e_end ?_
      refine renew [(1, (Enc.enc (begun_2 : List Int))), (2, (.int .i64 width_3)), (3, (.ref (.bx 3) 0 [] (.agg [(.int .i64 g_1.1), (Enc.enc (g_1.2 : List (Int × Int)))]))), (6, (.bool false)), (7, (.int .i64 i_28)), (8, (Enc.enc (r_54 : List Int))), (9, (.int .i64 k_62)), (10, (.int .i64 (begun_2.length : Int))), (36, (.bool r_71))] ⟨h1, h2, h3, h6, h7, h8, h9, h10, rfl⟩ ?_
      rintro s ⟨h1, h2, h3, h6, h7, h8, h9, h10, h36⟩
      refine .nsq ?_
      refine run_cond (t := r_71) h36 h (fun h => ?_) (fun h => ?_)
      · refine run_reg ?_
        refine e_end ?_
        refine g_v1 (t := 1) (u := (Enc.enc (begun_2 : List Int))) (Enc.enc (begun_2 : List Int)) h1 rfl rfl ?_
        refine g_v1 (t := 8) (u := (Enc.enc (r_54 : List Int))) (Enc.enc (r_54 : List Int)) h8 rfl rfl ?_
        refine g_v1 (t := 9) (u := (.int .i64 k_62)) (.int .i64 k_62) h9 rfl rfl ?_
        obtain ⟨e_75, E_e_75, h⟩ := bind_some h
        refine g_v (.ref .sh 0 [] (.int .i64 e_75)) (ev_idx (t := .sh) (lo := 0) (xs := r_54) rfl rfl E_e_75 rfl rfl) ?_
        refine g_v1 (t := 40) (u := (.ref .sh 0 [] (.int .i64 e_75))) (.int .i64 e_75) rfl rfl rfl ?_
        obtain ⟨r_76, E_r_76, h⟩ := bind_some h
        refine g_call (m := 0) (al := false) (r := (Enc.enc (r_76 : Int))) [Enc.enc (begun_2 : (List Int)), Enc.enc (e_75 : Int)] (ta_cons (v := (Enc.enc (begun_2 : List Int))) rfl rfl (Enc.erase_enc (begun_2 : (List Int))) (ta_cons (v := (.int .i64 e_75)) rfl rfl rfl ta_nil)) (H.c124 _ _ _ E_r_76) H.g124 rfl rfl rfl rfl ?_
        refine g_v1 (t := 42) (u := (.int .i64 r_76)) (.int .i64 r_76) rfl rfl rfl ?_
        refine g_end ?_
        refine e_end ?_
        refine renew [(1, (Enc.enc (begun_2 : List Int))), (2, (.int .i64 width_3)), (3, (.ref (.bx 3) 0 [] (.agg [(.int .i64 g_1.1), (Enc.enc (g_1.2 : List (Int × Int)))]))), (6, (.bool false)), (7, (.int .i64 i_28)), (8, (Enc.enc (r_54 : List Int))), (9, (.int .i64 k_62)), (10, (.int .i64 r_76))] ⟨h1, h2, h3, h6, h7, h8, h9, rfl⟩ ?_
        rintro s ⟨h1, h2, h3, h6, h7, h8, h9, h10⟩
        exact t_f115_j1 H begun_2 width_3 g_1 i_28 r_54 k_62 c1 Hc1 (s_l7Fits_l1 F begun_2 width_3 g_1 i_28 r_54 c1 k) ih r_76 _ ⟨h1, h2, h3, h6, h7, h8, h9, h10⟩ h
      · refine .skip ?_
        exact t_f115_j1 H begun_2 width_3 g_1 i_28 r_54 k_62 c1 Hc1 (s_l7Fits_l1 F begun_2 width_3 g_1 i_28 r_54 c1 k) ih (begun_2.length : Int) _ ⟨h1, h2, h3, h6, h7, h8, h9, h10⟩ h
    · refine .exit ?_
      refine .esq ?_
      refine .elp ?_
      refine .ebk ?_
      refine .nbk ?_
      refine .nsq ?_
      refine run_reg ?_
      refine e_end ?_
      refine g_v1 (t := 7) (u := (.int .i64 i_28)) (.int .i64 i_28) h7 rfl rfl ?_
      refine g_v1 (t := 15) (u := (.int .i64 i_28)) (.int .i64 (w64 (i_28 + 1))) rfl rfl rfl ?_
      refine g_v1 (t := 16) (u := (.int .i64 (w64 (i_28 + 1)))) (.int .i64 (w64 (i_28 + 1))) rfl rfl rfl ?_
      refine g_end ?_
      refine e_end ?_
      refine renew [(1, (Enc.enc (begun_2 : List Int))), (2, (.int .i64 width_3)), (3, (.ref (.bx 3) 0 [] (.agg [(.int .i64 g_1.1), (Enc.enc (g_1.2 : List (Int × Int)))]))), (6, (.bool false)), (7, (.int .i64 (w64 (i_28 + 1))))] ⟨h1, h2, h3, h6, rfl⟩ ?_
      rintro s ⟨h1, h2, h3, h6, h7⟩
      refine .nlp ?_
      exact Hc1 (w64 (i_28 + 1)) _ ⟨h1, h2, h3, h6, h7⟩ h
def s_l7Fits_l2 (F : Nat) (begun_2 : (List Int)) (width_3 : Int) (g_1 : (Int × (List (Int × Int))))  : Nat → Int → Option Bool
  | 0, _ => none
  | k + 1, i_28 =>
    bif decide (i_28 < (begun_2.length : Int)) then
      (idx begun_2 i_28).bind fun e_53 =>
      (s_l2Neighbors F g_1 e_53).bind fun r_54 =>
      s_l7Fits_l1 F begun_2 width_3 g_1 i_28 r_54 (s_l7Fits_l2 F begun_2 width_3 g_1 k) F 0
    else
      some true
theorem t_f115_l2 (H : H115 D σ F) (begun_2 : (List Int)) (width_3 : Int) (g_1 : (Int × (List (Int × Int))))  : ∀ (k : Nat) (i_28 : Int) (s : Nat → V), Facts [(1, (Enc.enc (begun_2 : List Int))), (2, (.int .i64 width_3)), (3, (.ref (.bx 3) 0 [] (.agg [(.int .i64 g_1.1), (Enc.enc (g_1.2 : List (Int × Int)))]))), (6, (.bool false)), (7, (.int .i64 i_28))] s → s_l7Fits_l2 F begun_2 width_3 g_1 k i_28 = some r → Run D σ (R115 r) (.run A115_1 [.lp A115_1, .bk 0, .sq A115_15]) s := by
  intro k
  induction k with
  | zero => intro i_28 s _ h; exact nomatch (h : (none : Option _) = some r)
  | succ k ih =>
    intro i_28 s hs h
    rw [s_l7Fits_l2] at h
    obtain ⟨h1, h2, h3, h6, h7⟩ := hs
    refine .seq ?_
    refine .seq ?_
    refine run_reg ?_
    refine e_end ?_
    refine g_v1 (t := 7) (u := (.int .i64 i_28)) (.int .i64 i_28) h7 rfl rfl ?_
    refine g_v1 (t := 1) (u := (Enc.enc (begun_2 : List Int))) (Enc.enc (begun_2 : List Int)) h1 rfl rfl ?_
    refine g_v (.int .i64 (begun_2.length : Int)) (ev_len (xs := begun_2) rfl) ?_
    refine g_v2 (t1 := 11) (t2 := 13) (u1 := (.int .i64 i_28)) (u2 := (.int .i64 (begun_2.length : Int))) (.bool (decide (i_28 < (begun_2.length : Int)))) rfl rfl rfl rfl ?_
    refine g_end ?_
    refine e_end ?_
    refine renew [(1, (Enc.enc (begun_2 : List Int))), (2, (.int .i64 width_3)), (3, (.ref (.bx 3) 0 [] (.agg [(.int .i64 g_1.1), (Enc.enc (g_1.2 : List (Int × Int)))]))), (6, (.bool false)), (7, (.int .i64 i_28)), (14, (.bool (decide (i_28 < (begun_2.length : Int)))))] ⟨h1, h2, h3, h6, h7, rfl⟩ ?_
    rintro s ⟨h1, h2, h3, h6, h7, h14⟩
    refine .nsq ?_
    refine run_cond (t := decide (i_28 < (begun_2.length : Int))) h14 h (fun h => ?_) (fun h => ?_)
    · refine .skip ?_
      refine .nsq ?_
      refine .seq ?_
      refine .block ?_
      refine .seq ?_
      refine run_reg ?_
      refine e_end ?_
      refine g_v1 (t := 3) (u := (.ref (.bx 3) 0 [] (.agg [(.int .i64 g_1.1), (Enc.enc (g_1.2 : List (Int × Int)))]))) (.agg [(.int .i64 g_1.1), (Enc.enc (g_1.2 : List (Int × Int)))]) h3 rfl rfl ?_
      refine g_v1 (t := 1) (u := (Enc.enc (begun_2 : List Int))) (Enc.enc (begun_2 : List Int)) h1 rfl rfl ?_
      refine g_v1 (t := 7) (u := (.int .i64 i_28)) (.int .i64 i_28) h7 rfl rfl ?_
      obtain ⟨e_53, E_e_53, h⟩ := bind_some h
      refine g_v (.ref .sh 0 [] (.int .i64 e_53)) (ev_idx (t := .sh) (lo := 0) (xs := begun_2) rfl rfl E_e_53 rfl rfl) ?_
      refine g_v1 (t := 20) (u := (.ref .sh 0 [] (.int .i64 e_53))) (.int .i64 e_53) rfl rfl rfl ?_
      obtain ⟨r_54, E_r_54, h⟩ := bind_some h
      refine g_call (m := 0) (al := false) (r := (Enc.enc (r_54 : (List Int)))) [Enc.enc (g_1 : (Int × (List (Int × Int)))), Enc.enc (e_53 : Int)] (ta_cons (v := (.agg [(.int .i64 g_1.1), (Enc.enc (g_1.2 : List (Int × Int)))])) rfl rfl (Enc.erase_enc (g_1 : (Int × (List (Int × Int))))) (ta_cons (v := (.int .i64 e_53)) rfl rfl rfl ta_nil)) (H.c107 _ _ _ E_r_54) H.g107 rfl rfl rfl rfl ?_
      refine g_v1 (t := 22) (u := (Enc.enc (r_54 : List Int))) (Enc.enc (r_54 : List Int)) rfl rfl rfl ?_
      refine g_end ?_
      refine e_end ?_
      refine renew [(1, (Enc.enc (begun_2 : List Int))), (2, (.int .i64 width_3)), (3, (.ref (.bx 3) 0 [] (.agg [(.int .i64 g_1.1), (Enc.enc (g_1.2 : List (Int × Int)))]))), (6, (.bool false)), (7, (.int .i64 i_28)), (8, (Enc.enc (r_54 : List Int)))] ⟨h1, h2, h3, h6, h7, rfl⟩ ?_
      rintro s ⟨h1, h2, h3, h6, h7, h8⟩
      refine .nsq ?_
      refine .seq ?_
      refine run_reg ?_
      refine e_end ?_
      refine g_v0 (.int .i64 0) rfl rfl ?_
      refine g_end ?_
      refine e_end ?_
      refine renew [(1, (Enc.enc (begun_2 : List Int))), (2, (.int .i64 width_3)), (3, (.ref (.bx 3) 0 [] (.agg [(.int .i64 g_1.1), (Enc.enc (g_1.2 : List (Int × Int)))]))), (6, (.bool false)), (7, (.int .i64 i_28)), (8, (Enc.enc (r_54 : List Int))), (9, (.int .i64 0))] ⟨h1, h2, h3, h6, h7, h8, rfl⟩ ?_
      rintro s ⟨h1, h2, h3, h6, h7, h8, h9⟩
      refine .nsq ?_
      refine .block ?_
      refine .loop ?_
      exact t_f115_l1 H begun_2 width_3 g_1 i_28 r_54 (s_l7Fits_l2 F begun_2 width_3 g_1 k) ih F 0 _ ⟨h1, h2, h3, h6, h7, h8, h9⟩ h
    · refine .exit ?_
      refine .esq ?_
      refine .elp ?_
      refine .ebk ?_
      refine .nsq ?_
      refine .seq ?_
      refine run_reg ?_
      refine e_end ?_
      refine g_v0 (.bool true) rfl rfl ?_
      refine g_end ?_
      refine e_end ?_
      refine renew [(6, (.bool true))] rfl ?_
      rintro s h6
      refine .nsq ?_
      refine .ret ?_
      have hr := Option.some.inj h
      subst hr
      exact rrA (res_tmp h6) rfl
def s_l7Fits (F : Nat) (g_1 : (Int × (List (Int × Int)))) (begun_2 : (List Int)) (width_3 : Int) : Option Bool :=
  s_l7Fits_l2 F begun_2 width_3 g_1 F 0
theorem t115 (H : H115 D σ F) (g_1 : (Int × (List (Int × Int)))) (begun_2 : (List Int)) (width_3 : Int) (s : Nat → V) (hs : Facts [(0, (.agg [(.int .i64 g_1.1), (Enc.enc (g_1.2 : List (Int × Int)))])), (1, (Enc.enc (begun_2 : List Int))), (2, (.int .i64 width_3))] s) (h : s_l7Fits F g_1 begun_2 width_3 = some r) : Run D σ (R115 r) (.run A115 []) s := by
  unfold s_l7Fits at h
  obtain ⟨h0, h1, h2⟩ := hs
  refine .seq ?_
  refine run_reg ?_
  refine e_clr ?_
  refine e_end ?_
  refine g_box (.agg [(.int .i64 g_1.1), (Enc.enc (g_1.2 : List (Int × Int)))]) (rd_of (keep_clear (s := s) (pk := [3]) h0 rfl (map_agg (maps_cons rfl (maps_cons (Enc.map_enc _ (g_1.2 : List (Int × Int))) maps_nil)))) rfl) (gone_clear (s := s) (pk := [3]) (t := 3) rfl) rfl ?_
  refine g_v0 (.bool false) rfl rfl ?_
  refine g_end ?_
  refine e_end ?_
  refine renew [(1, (Enc.enc (begun_2 : List Int))), (2, (.int .i64 width_3)), (3, (.ref (.bx 3) 0 [] (.agg [(.int .i64 g_1.1), (Enc.enc (g_1.2 : List (Int × Int)))]))), (6, (.bool false))] ⟨(keep_clear (s := s) (pk := [3]) h1 rfl (Enc.map_enc _ (begun_2 : List Int))), (keep_clear (s := s) (pk := [3]) h2 rfl rfl), rfl, rfl⟩ ?_
  rintro s ⟨h1, h2, h3, h6⟩
  refine .nsq ?_
  refine .seq ?_
  refine .seq ?_
  refine run_reg ?_
  refine e_end ?_
  refine g_v0 (.int .i64 0) rfl rfl ?_
  refine g_end ?_
  refine e_end ?_
  refine renew [(1, (Enc.enc (begun_2 : List Int))), (2, (.int .i64 width_3)), (3, (.ref (.bx 3) 0 [] (.agg [(.int .i64 g_1.1), (Enc.enc (g_1.2 : List (Int × Int)))]))), (6, (.bool false)), (7, (.int .i64 0))] ⟨h1, h2, h3, h6, rfl⟩ ?_
  rintro s ⟨h1, h2, h3, h6, h7⟩
  refine .nsq ?_
  refine .block ?_
  refine .loop ?_
  exact t_f115_l2 H begun_2 width_3 g_1 F 0 _ ⟨h1, h2, h3, h6, h7⟩ h
end
def e115 (F : Nat) : Ent := ⟨115, da (fun (x : ((Int × (List (Int × Int))) × (List Int) × Int × Unit)) => s_l7Fits F x.1 x.2.1 x.2.2.1) (fun (r : Bool) => (Enc.enc (r : Bool))), 0, false, selF []⟩
theorem p115 {F : Nat} {x0 : (Int × (List (Int × Int)))} {x1 : (List Int)} {x2 : Int} {r : Bool} (h : s_l7Fits F x0 x1 x2 = some r) : (e115 F).den [Enc.enc x0, Enc.enc x1, Enc.enc x2] = some (Enc.enc (r : Bool)) := da_put (f := fun (x : ((Int × (List (Int × Int))) × (List Int) × Int × Unit)) => s_l7Fits F x.1 x.2.1 x.2.2.1) (t := fun (r : Bool) => (Enc.enc (r : Bool))) (x0, x1, x2, ()) h
theorem o115 {D : Den} {σ : Sig} {F : Nat} (hF : Fits2 Try.prog D σ) (H : H115 D σ F) : (e115 F).Ok Try.prog := by
  refine ok_of (f := 115) (show unk 115 = 115 from rfl) (fun args r h => ?_) ⟨Try.f115, Try.func115, rfl, rfl⟩
  obtain ⟨⟨x0, x1, x2, _⟩, y, rfl, hy, rfl⟩ := da_open h
  exact contract_run hF (by kernel_rfl) Try.func115 rfl c115 (show 3 ≤ Try.f115.ntmps by decide) (t115 H x0 x1 x2 _ ⟨rfl, rfl, rfl⟩ hy)
/- loop.example/g01109/spec.l1Own -/
def A98_1 : AC := (AC.seq (AC.reg [.clr [3, 5]] [(I.mk (some 3) none false (X.lit (V.int IntKind.i64 (Int.ofNat 0)) 0 [])), (I.mk (some 4) none false (X.v (A.mov (O.t 0)))), (I.mk (some 5) none false (X.app Sh.s (O.t 3) (O.t 4))), (I.mk (some 2) none false (X.v (A.mov (O.t 5))))] [.home 5 2]) AC.ret)
def A98 : AC := (AC.seq (AC.reg [] [(I.mk (some 2) none false (X.v (A.mov (O.k (V.sl Tok.nl Sh.s 0 [])))))] []) A98_1)
def an98 : List An := [{ id := 1, pre := [.clr [3, 5]], ep := [.home 5 2], lin := [], sp := [] }]
theorem c98 : cC Try.prog Try.f98.ntmps an98 (Try.f98.body.getD .skip) = some A98 := by kernel_rfl
structure H98 (D : Den) (σ : Sig) (F : Nat) : Prop where
  mk ::
abbrev R98 (r : (List Int)) : (Nat → V) → Prop := RR Try.prog [.tmp 2] 0 false (Enc.enc (r : (List Int)))
section
variable {D : Den} {σ : Sig} {F : Nat} {r : (List Int)}
def s_l1Own (F : Nat) (l_1 : (List Int)) : Option (List Int) :=
  (appL [] l_1).bind fun ap_2 =>
  some ap_2
theorem t98 (H : H98 D σ F) (l_1 : (List Int)) (s : Nat → V) (hs : Facts [(0, (Enc.enc (l_1 : List Int)))] s) (h : s_l1Own F l_1 = some r) : Run D σ (R98 r) (.run A98 []) s := by
  unfold s_l1Own at h
  have h0 := hs
  refine .seq ?_
  refine run_reg ?_
  refine e_end ?_
  refine g_v0 (.sl .nl (Enc.shp Int) 0 []) rfl rfl ?_
  refine g_end ?_
  refine e_end ?_
  refine renew [(0, (Enc.enc (l_1 : List Int))), (2, (.sl .nl (Enc.shp Int) 0 []))] ⟨h0, rfl⟩ ?_
  rintro s ⟨h0, h2⟩
  refine .nsq ?_
  refine .seq ?_
  refine run_reg ?_
  refine e_clr ?_
  refine e_end ?_
  refine g_litL [] [] trivial rfl rfl (gone_clear (s := s) (pk := [3, 5]) (t := 3) rfl) ?_
  refine g_v1 (t := 0) (u := (Enc.enc (l_1 : List Int))) (Enc.enc (l_1 : List Int)) (keep_clear (s := s) (pk := [3, 5]) h0 rfl (Enc.map_enc _ (l_1 : List Int))) rfl rfl ?_
  obtain ⟨ap_2, E_ap_2, h⟩ := bind_some h
  refine g_app (q := 3) (p := []) (o := (.of ([] : List Int))) (ys := (l_1 : List Int)) (t2 := .sh) (lo2 := 0) rfl rfl rfl (gone_clear (s := s) (pk := [3, 5]) (t := 5) rfl) (appN_L (o := (.of ([] : List Int))) E_ap_2 trivial) (fun s_2 ha_2 => ?_)
  refine g_v1 (t := 5) (u := (encO (.at 5 []) (.of (ap_2 : List Int)))) (encO (.at 5 []) (.of (ap_2 : List Int))) rfl rfl rfl ?_
  refine g_end ?_
  refine e_home (r := 5) (x := 2) (v := (encO (.at 5 []) (.of (ap_2 : List Int)))) (by exact rfl) rfl (fun s_3 hg_3 => ?_)
  refine e_end ?_
  refine renew [(2, (encO (.at 2 []) (.of (ap_2 : List Int))))] (hg_3 2 (encO (.at 5 []) (.of (ap_2 : List Int))) (encO (.at 2 []) (.of (ap_2 : List Int))) rfl (map_encO (r := 5) (p := []) rfl rfl)) ?_
  rintro s h2
  refine .nsq ?_
  refine .ret ?_
  have hr := Option.some.inj h
  subst hr
  exact rrA (res_tmp h2) (fin_retF (fin_own (o := .of ap_2)) (mine_own rfl))
end
def e98 (F : Nat) : Ent := ⟨98, da (fun (x : ((List Int) × Unit)) => s_l1Own F x.1) (fun (r : (List Int)) => (Enc.enc (r : (List Int)))), 0, false, selF []⟩
theorem p98 {F : Nat} {x0 : (List Int)} {r : (List Int)} (h : s_l1Own F x0 = some r) : (e98 F).den [Enc.enc x0] = some (Enc.enc (r : (List Int))) := da_put (f := fun (x : ((List Int) × Unit)) => s_l1Own F x.1) (t := fun (r : (List Int)) => (Enc.enc (r : (List Int)))) (x0, ()) h
theorem o98 {D : Den} {σ : Sig} {F : Nat} (hF : Fits2 Try.prog D σ) (H : H98 D σ F) : (e98 F).Ok Try.prog := by
  refine ok_of (f := 98) (show unk 98 = 98 from rfl) (fun args r h => ?_) ⟨Try.f98, Try.func98, rfl, rfl⟩
  obtain ⟨⟨x0, _⟩, y, rfl, hy, rfl⟩ := da_open h
  exact contract_run hF (by kernel_rfl) Try.func98 rfl c98 (show 1 ≤ Try.f98.ntmps by decide) (t98 H x0 _ rfl hy)
/- loop.example/g01109/spec.l1Own -/
def A98o_1 : AC := (AC.seq (AC.reg [.clr [3, 5]] [(I.mk (some 3) none false (X.lit (V.int IntKind.i64 (Int.ofNat 0)) 0 [])), (I.mk (some 4) none false (X.v (A.mov (O.t 0)))), (I.mk (some 5) none false (X.app Sh.s (O.t 3) (O.t 4))), (I.mk (some 2) none false (X.v (A.mov (O.t 5))))] [.home 5 2]) AC.ret)
def A98o : AC := (AC.seq (AC.reg [] [(I.mk (some 2) none false (X.v (A.mov (O.k (V.sl Tok.nl Sh.s 0 [])))))] []) A98o_1)
def an98o : List An := [{ id := 1, pre := [.clr [3, 5]], ep := [.home 5 2], lin := [], sp := [] }]
theorem c98o : cC Try.prog Try.f98.ntmps an98o (Try.f98.body.getD .skip) = some A98o := by kernel_rfl
structure H98o (D : Den) (σ : Sig) (F : Nat) : Prop where
  mk ::
abbrev R98o (r : (NL Int)) : (Nat → V) → Prop := RR Try.prog [.tmp 2] 1 false (encO .sh (r : NL Int))
section
variable {D : Den} {σ : Sig} {F : Nat} {r : (NL Int)}
def s_l1Own_o (F : Nat) (l_1 : (List Int)) : Option (NL Int) :=
  (appL [] l_1).bind fun ap_2 =>
  some (.of ap_2)
theorem t98o (H : H98o D σ F) (l_1 : (List Int)) (s : Nat → V) (hs : Facts [(0, (Enc.enc (l_1 : List Int)))] s) (h : s_l1Own_o F l_1 = some r) : Run D σ (R98o r) (.run A98o []) s := by
  unfold s_l1Own_o at h
  have h0 := hs
  refine .seq ?_
  refine run_reg ?_
  refine e_end ?_
  refine g_v0 (.sl .nl (Enc.shp Int) 0 []) rfl rfl ?_
  refine g_end ?_
  refine e_end ?_
  refine renew [(0, (Enc.enc (l_1 : List Int))), (2, (.sl .nl (Enc.shp Int) 0 []))] ⟨h0, rfl⟩ ?_
  rintro s ⟨h0, h2⟩
  refine .nsq ?_
  refine .seq ?_
  refine run_reg ?_
  refine e_clr ?_
  refine e_end ?_
  refine g_litL [] [] trivial rfl rfl (gone_clear (s := s) (pk := [3, 5]) (t := 3) rfl) ?_
  refine g_v1 (t := 0) (u := (Enc.enc (l_1 : List Int))) (Enc.enc (l_1 : List Int)) (keep_clear (s := s) (pk := [3, 5]) h0 rfl (Enc.map_enc _ (l_1 : List Int))) rfl rfl ?_
  obtain ⟨ap_2, E_ap_2, h⟩ := bind_some h
  refine g_app (q := 3) (p := []) (o := (.of ([] : List Int))) (ys := (l_1 : List Int)) (t2 := .sh) (lo2 := 0) rfl rfl rfl (gone_clear (s := s) (pk := [3, 5]) (t := 5) rfl) (appN_L (o := (.of ([] : List Int))) E_ap_2 trivial) (fun s_2 ha_2 => ?_)
  refine g_v1 (t := 5) (u := (encO (.at 5 []) (.of (ap_2 : List Int)))) (encO (.at 5 []) (.of (ap_2 : List Int))) rfl rfl rfl ?_
  refine g_end ?_
  refine e_home (r := 5) (x := 2) (v := (encO (.at 5 []) (.of (ap_2 : List Int)))) (by exact rfl) rfl (fun s_3 hg_3 => ?_)
  refine e_end ?_
  refine renew [(2, (encO (.at 2 []) (.of (ap_2 : List Int))))] (hg_3 2 (encO (.at 5 []) (.of (ap_2 : List Int))) (encO (.at 2 []) (.of (ap_2 : List Int))) rfl (map_encO (r := 5) (p := []) rfl rfl)) ?_
  rintro s h2
  refine .nsq ?_
  refine .ret ?_
  have hr := Option.some.inj h
  subst hr
  exact rrA (res_tmp h2) (fin_retO (finO_own (o := ((.of ap_2) : NL Int))) rfl (mine_own rfl))
end
def e98o (F : Nat) : Ent := ⟨1000000098, da (fun (x : ((List Int) × Unit)) => s_l1Own_o F x.1) (fun (r : (NL Int)) => (encO .sh (r : NL Int))), 1, false, selF []⟩
theorem p98o {F : Nat} {x0 : (List Int)} {r : (NL Int)} (h : s_l1Own_o F x0 = some r) : (e98o F).den [Enc.enc x0] = some (encO .sh (r : NL Int)) := da_put (f := fun (x : ((List Int) × Unit)) => s_l1Own_o F x.1) (t := fun (r : (NL Int)) => (encO .sh (r : NL Int))) (x0, ()) h
theorem o98o {D : Den} {σ : Sig} {F : Nat} (hF : Fits2 Try.prog D σ) (H : H98o D σ F) : (e98o F).Ok Try.prog := by
  refine ok_of (f := 98) (show unk 1000000098 = 98 from rfl) (fun args r h => ?_) ⟨Try.f98, Try.func98, rfl, rfl⟩
  obtain ⟨⟨x0, _⟩, y, rfl, hy, rfl⟩ := da_open h
  exact contract_run hF (by kernel_rfl) Try.func98 rfl c98o (show 1 ≤ Try.f98.ntmps by decide) (t98o H x0 _ rfl hy)
/- loop.example/g01109/spec.l7Layout -/
def A79_2 : AC := (AC.cond (O.t 26) AC.skip (AC.exit 0))
def A79_4 : AC := (AC.cond (O.t 31) (AC.exit 1) AC.skip)
def A79_7 : AC := (AC.cond (O.t 43) (AC.seq (AC.reg [] [(I.mk (some 44) none false (X.v (A.mov (O.t 9)))), (I.mk (some 6) none false (X.v (A.mov (O.t 44)))), (I.mk (some 7) none false (X.v (A.mov (O.k (V.bool true)))))] []) AC.ret) AC.skip)
def A79_6 : AC := (AC.seq (AC.reg [] [(I.mk (some 43) none false (X.v (A.mov (O.t 10))))] []) A79_7)
def A79_5 : AC := (AC.seq (AC.reg [.clr [35, 37, 38]] [(I.mk (some 33) none false (X.v (A.load (Sh.ag [Sh.s, Sh.p]) (O.t 3)))), (I.mk (some 34) none false (X.v (A.mov (O.t 1)))), (I.mk (some 35) none true (X.callO (O.k (V.fn 98 [] [])) [(O.t 34)])), (I.mk (some 36) none false (X.v (A.mov (O.t 8)))), (I.mk (some 37) none false (X.lit (V.int IntKind.i64 (Int.ofNat 0)) 1 [(0, 0, (O.t 36))])), (I.mk (some 38) none true (X.appS Sh.s (O.t 35) (O.t 37))), (I.mk (some 39) none false (X.v (A.mov (O.t 2)))), (I.mk (some 40) none false (X.call (O.k (V.fn 79 [] [])) [(O.t 33), (O.t 38), (O.t 39)])), (I.mk (some 32) none false (X.v (A.mov (O.t 40)))), (I.mk (some 41) none false (X.v (A.ext (O.t 32) 0))), (I.mk (some 42) none false (X.v (A.extS (O.t 32) 1))), (I.mk (some 9) none false (X.v (A.mov (O.t 41)))), (I.mk (some 10) none false (X.v (A.mov (O.t 42))))] []) A79_6)
def A79_8 : AC := (AC.reg [] [(I.mk (some 27) none false (X.v (A.mov (O.t 8)))), (I.mk (some 28) none false (X.v (A.bin BinOp.add (O.t 27) (O.k (V.int IntKind.i64 (Int.ofNat 1)))))), (I.mk (some 8) none false (X.v (A.mov (O.t 28))))] [])
def A79_3 : AC := (AC.seq (AC.block 1 (AC.seq (AC.seq (AC.reg [] [(I.mk (some 29) none false (X.v (A.mov (O.t 1)))), (I.mk (some 30) none false (X.v (A.mov (O.t 8)))), (I.mk (some 31) none false (X.call (O.k (V.fn 68 [] [])) [(O.t 29), (O.t 30)]))] []) A79_4) A79_5)) A79_8)
def A79_1 : AC := (AC.seq (AC.seq (AC.reg [] [(I.mk (some 23) none false (X.v (A.mov (O.t 8)))), (I.mk (some 24) none false (X.v (A.fld (O.t 3) 0 0))), (I.mk (some 25) none false (X.v (A.load Sh.s (O.t 24)))), (I.mk (some 26) none false (X.v (A.bin BinOp.lss (O.t 23) (O.t 25))))] []) A79_2) A79_3)
def A79_9 : AC := (AC.seq (AC.reg [.clr [45]] [(I.mk (some 45) none false (X.lit (V.int IntKind.i64 (Int.ofNat 0)) 0 [])), (I.mk (some 6) none false (X.v (A.mov (O.t 45)))), (I.mk (some 7) none false (X.v (A.mov (O.k (V.bool false)))))] [.home 45 6]) AC.ret)
def A79_11 : AC := (AC.cond (O.t 15) (AC.seq (AC.reg [.clr [16]] [(I.mk (some 16) none false (X.lit (V.int IntKind.i64 (Int.ofNat 0)) 0 [])), (I.mk (some 6) none false (X.v (A.mov (O.t 16)))), (I.mk (some 7) none false (X.v (A.mov (O.k (V.bool false)))))] [.home 16 6]) AC.ret) AC.skip)
def A79_13 : AC := (AC.cond (O.t 21) (AC.seq (AC.reg [] [(I.mk (some 22) none false (X.v (A.mov (O.t 1)))), (I.mk (some 6) none false (X.v (A.mov (O.t 22)))), (I.mk (some 7) none false (X.v (A.mov (O.k (V.bool true)))))] []) AC.ret) AC.skip)
def A79_15 : AC := (AC.block 0 (AC.loop A79_1))
def A79_14 : AC := (AC.seq (AC.seq (AC.reg [] [(I.mk (some 8) none false (X.v (A.mov (O.k (V.int IntKind.i64 (Int.ofNat 0))))))] []) A79_15) A79_9)
def A79_12 : AC := (AC.seq (AC.seq (AC.reg [] [(I.mk (some 17) none false (X.v (A.mov (O.t 1)))), (I.mk (some 18) none false (X.v (A.len (O.t 17)))), (I.mk (some 19) none false (X.v (A.fld (O.t 3) 0 0))), (I.mk (some 20) none false (X.v (A.load Sh.s (O.t 19)))), (I.mk (some 21) none false (X.v (A.bin BinOp.eql (O.t 18) (O.t 20))))] []) A79_13) A79_14)
def A79_10 : AC := (AC.seq (AC.seq (AC.reg [] [(I.mk (some 11) none false (X.v (A.load (Sh.ag [Sh.s, Sh.p]) (O.t 3)))), (I.mk (some 12) none false (X.v (A.mov (O.t 1)))), (I.mk (some 13) none false (X.v (A.mov (O.t 2)))), (I.mk (some 14) none false (X.call (O.k (V.fn 115 [] [])) [(O.t 11), (O.t 12), (O.t 13)])), (I.mk (some 15) none false (X.v (A.un UnOp.not (O.t 14))))] []) A79_11) A79_12)
def A79 : AC := (AC.seq (AC.reg [.clr [3]] [(I.mk (some 3) none false (X.box (O.t 0))), (I.mk (some 6) none false (X.v (A.mov (O.k (V.sl Tok.nl Sh.s 0 []))))), (I.mk (some 7) none false (X.v (A.mov (O.k (V.bool false)))))] []) A79_10)
def an79 : List An := [{ id := 0, pre := [.clr [3]], ep := [], lin := [], sp := [] }, { id := 2, pre := [.clr [16]], ep := [.home 16 6], lin := [], sp := [] }, { id := 9, pre := [.clr [35, 37, 38]], ep := [], lin := [2, 5], sp := [5, 1002] }, { id := 12, pre := [.clr [45]], ep := [.home 45 6], lin := [], sp := [] }]
theorem c79 : cC Try.prog Try.f79.ntmps an79 (Try.f79.body.getD .skip) = some A79 := by kernel_rfl
structure H79 (D : Den) (σ : Sig) (F : Nat) (rc : (Int × (List (Int × Int))) → (List Int) → Int → Option ((List Int) × Bool)) : Prop where
  c115 : ∀ (x0 : (Int × (List (Int × Int)))) (x1 : (List Int)) (x2 : Int) r, s_l7Fits F x0 x1 x2 = some r → D 115 [Enc.enc x0, Enc.enc x1, Enc.enc x2] = some (Enc.enc (r : Bool))
  g115 : σ 115 = some (0, false)
  c68 : ∀ (x0 : (List Int)) (x1 : Int) r, s_l1Has F x0 x1 = some r → D 68 [Enc.enc x0, Enc.enc x1] = some (Enc.enc (r : Bool))
  g68 : σ 68 = some (0, false)
  c98o : ∀ (x0 : (List Int)) r, s_l1Own_o F x0 = some r → D 1000000098 [Enc.enc x0] = some (encO .sh (r : NL Int))
  g98o : σ 1000000098 = some (1, false)
  c79 : ∀ (x0 : (Int × (List (Int × Int)))) (x1 : (List Int)) (x2 : Int) r, rc x0 x1 x2 = some r → D 79 [Enc.enc x0, Enc.enc x1, Enc.enc x2] = some (.tup [Enc.enc (r.1 : (List Int)), Enc.enc (r.2 : Bool)])
  g79 : σ 79 = some (0, true)
abbrev R79 (r : ((List Int) × Bool)) : (Nat → V) → Prop := RR Try.prog [.tmp 6, .tmp 7] 0 true (.tup [Enc.enc (r.1 : (List Int)), Enc.enc (r.2 : Bool)])
section
variable {D : Den} {σ : Sig} {F : Nat} {rc : (Int × (List (Int × Int))) → (List Int) → Int → Option ((List Int) × Bool)} {r : ((List Int) × Bool)}
def s_l7Layout_l1 (F : Nat) (rc : (Int × (List (Int × Int))) → (List Int) → Int → Option ((List Int) × Bool)) (begun_2 : (List Int)) (width_3 : Int) (g_1 : (Int × (List (Int × Int))))  : Nat → Int → Option ((List Int) × Bool)
  | 0, _ => none
  | k + 1, x_9 =>
    bif decide (x_9 < g_1.1) then
      (s_l1Has F begun_2 x_9).bind fun r_14 =>
      bif r_14 then
        (s_l7Layout_l1 F rc begun_2 width_3 g_1 k) (w64 (x_9 + 1))
      else
        (s_l1Own_o F begun_2).bind fun r_15 =>
        (appL r_15.list [x_9]).bind fun ap_16 =>
        (rc g_1 ap_16 width_3).bind fun r_17 =>
        bif r_17.2 then
          some (r_17.1, true)
        else
          (s_l7Layout_l1 F rc begun_2 width_3 g_1 k) (w64 (x_9 + 1))
    else
      some ([], false)
theorem t_f79_l1 (H : H79 D σ F rc) (begun_2 : (List Int)) (width_3 : Int) (g_1 : (Int × (List (Int × Int))))  : ∀ (k : Nat) (x_9 : Int) (s : Nat → V), Facts [(1, (Enc.enc (begun_2 : List Int))), (2, (.int .i64 width_3)), (3, (.ref (.bx 3) 0 [] (.agg [(.int .i64 g_1.1), (Enc.enc (g_1.2 : List (Int × Int)))]))), (6, (.sl .nl (Enc.shp Int) 0 [])), (7, (.bool false)), (8, (.int .i64 x_9))] s → s_l7Layout_l1 F rc begun_2 width_3 g_1 k x_9 = some r → Run D σ (R79 r) (.run A79_1 [.lp A79_1, .bk 0, .sq A79_9]) s := by
  intro k
  induction k with
  | zero => intro x_9 s _ h; exact nomatch (h : (none : Option _) = some r)
  | succ k ih =>
    intro x_9 s hs h
    rw [s_l7Layout_l1] at h
    obtain ⟨h1, h2, h3, h6, h7, h8⟩ := hs
    refine .seq ?_
    refine .seq ?_
    refine run_reg ?_
    refine e_end ?_
    refine g_v1 (t := 8) (u := (.int .i64 x_9)) (.int .i64 x_9) h8 rfl rfl ?_
    refine g_v1 (t := 3) (u := (.ref (.bx 3) 0 [] (.agg [(.int .i64 g_1.1), (Enc.enc (g_1.2 : List (Int × Int)))]))) (.ref (.bx 3) 0 [0] (.int .i64 g_1.1)) h3 rfl rfl ?_
    refine g_v1 (t := 24) (u := (.ref (.bx 3) 0 [0] (.int .i64 g_1.1))) (.int .i64 g_1.1) rfl rfl rfl ?_
    refine g_v2 (t1 := 23) (t2 := 25) (u1 := (.int .i64 x_9)) (u2 := (.int .i64 g_1.1)) (.bool (decide (x_9 < g_1.1))) rfl rfl rfl rfl ?_
    refine g_end ?_
    refine e_end ?_
    refine renew [(1, (Enc.enc (begun_2 : List Int))), (2, (.int .i64 width_3)), (3, (.ref (.bx 3) 0 [] (.agg [(.int .i64 g_1.1), (Enc.enc (g_1.2 : List (Int × Int)))]))), (6, (.sl .nl (Enc.shp Int) 0 [])), (7, (.bool false)), (8, (.int .i64 x_9)), (26, (.bool (decide (x_9 < g_1.1))))] ⟨h1, h2, h3, h6, h7, h8, rfl⟩ ?_
    rintro s ⟨h1, h2, h3, h6, h7, h8, h26⟩
    refine .nsq ?_
    refine run_cond (t := decide (x_9 < g_1.1)) h26 h (fun h => ?_) (fun h => ?_)
    · refine .skip ?_
      refine .nsq ?_
      refine .seq ?_
      refine .block ?_
      refine .seq ?_
      refine .seq ?_
      refine run_reg ?_
      refine e_end ?_
      refine g_v1 (t := 1) (u := (Enc.enc (begun_2 : List Int))) (Enc.enc (begun_2 : List Int)) h1 rfl rfl ?_
      refine g_v1 (t := 8) (u := (.int .i64 x_9)) (.int .i64 x_9) h8 rfl rfl ?_
      obtain ⟨r_14, E_r_14, h⟩ := bind_some h
      refine g_call (m := 0) (al := false) (r := (Enc.enc (r_14 : Bool))) [Enc.enc (begun_2 : (List Int)), Enc.enc (x_9 : Int)] (ta_cons (v := (Enc.enc (begun_2 : List Int))) rfl rfl (Enc.erase_enc (begun_2 : (List Int))) (ta_cons (v := (.int .i64 x_9)) rfl rfl rfl ta_nil)) (H.c68 _ _ _ E_r_14) H.g68 rfl rfl rfl rfl ?_
      refine g_end ?_
      refine e_end ?_
      refine renew [(1, (Enc.enc (begun_2 : List Int))), (2, (.int .i64 width_3)), (3, (.ref (.bx 3) 0 [] (.agg [(.int .i64 g_1.1), (Enc.enc (g_1.2 : List (Int × Int)))]))), (6, (.sl .nl (Enc.shp Int) 0 [])), (7, (.bool false)), (8, (.int .i64 x_9)), (31, (.bool r_14))] ⟨h1, h2, h3, h6, h7, h8, rfl⟩ ?_
      rintro s ⟨h1, h2, h3, h6, h7, h8, h31⟩
      refine .nsq ?_
      refine run_cond (t := r_14) h31 h (fun h => ?_) (fun h => ?_)
      · refine .exit ?_
        refine .esq ?_
        refine .ebk ?_
        refine .nsq ?_
        refine run_reg ?_
        refine e_end ?_
        refine g_v1 (t := 8) (u := (.int .i64 x_9)) (.int .i64 x_9) h8 rfl rfl ?_
        refine g_v1 (t := 27) (u := (.int .i64 x_9)) (.int .i64 (w64 (x_9 + 1))) rfl rfl rfl ?_
        refine g_v1 (t := 28) (u := (.int .i64 (w64 (x_9 + 1)))) (.int .i64 (w64 (x_9 + 1))) rfl rfl rfl ?_
        refine g_end ?_
        refine e_end ?_
        refine renew [(1, (Enc.enc (begun_2 : List Int))), (2, (.int .i64 width_3)), (3, (.ref (.bx 3) 0 [] (.agg [(.int .i64 g_1.1), (Enc.enc (g_1.2 : List (Int × Int)))]))), (6, (.sl .nl (Enc.shp Int) 0 [])), (7, (.bool false)), (8, (.int .i64 (w64 (x_9 + 1))))] ⟨h1, h2, h3, h6, h7, rfl⟩ ?_
        rintro s ⟨h1, h2, h3, h6, h7, h8⟩
        refine .nlp ?_
        exact ih (w64 (x_9 + 1)) _ ⟨h1, h2, h3, h6, h7, h8⟩ h
      · refine .skip ?_
        refine .nsq ?_
        refine .seq ?_
        refine run_reg ?_
        refine e_clr ?_
        refine e_end ?_
        refine g_v1 (t := 3) (u := (.ref (.bx 3) 0 [] (.agg [(.int .i64 g_1.1), (Enc.enc (g_1.2 : List (Int × Int)))]))) (.agg [(.int .i64 g_1.1), (Enc.enc (g_1.2 : List (Int × Int)))]) (keep_clear (s := s) (pk := [35, 37, 38]) h3 rfl (map_bx rfl (map_agg (maps_cons rfl (maps_cons (Enc.map_enc _ (g_1.2 : List (Int × Int))) maps_nil))))) rfl rfl ?_
        refine g_v1 (t := 1) (u := (Enc.enc (begun_2 : List Int))) (Enc.enc (begun_2 : List Int)) (keep_clear (s := s) (pk := [35, 37, 38]) h1 rfl (Enc.map_enc _ (begun_2 : List Int))) rfl rfl ?_
        obtain ⟨r_15, E_r_15, h⟩ := bind_some h
        refine g_callOl (m := 1) (al := false) (r := (encO .sh (r_15 : NL Int))) (o := (r_15 : NL Int)) (kk := 1000000098) [Enc.enc (begun_2 : (List Int))] (ta_cons (v := (Enc.enc (begun_2 : List Int))) rfl rfl (Enc.erase_enc (begun_2 : (List Int))) ta_nil) (H.c98o _ _ E_r_15) H.g98o rfl toks_encS tag_encO (gone_clear (s := s) (pk := [35, 37, 38]) (t := 35) rfl) ?_
        refine g_v1 (t := 8) (u := (.int .i64 x_9)) (.int .i64 x_9) (keep_clear (s := s) (pk := [35, 37, 38]) h8 rfl rfl) rfl rfl ?_
        refine g_litL [(36, (.int .i64 x_9))] [Enc.enc (x_9 : Int)] rfl rfl rfl (gone_clear (s := s) (pk := [35, 37, 38]) (t := 37) rfl) ?_
        obtain ⟨ap_16, E_ap_16, h⟩ := bind_some h
        refine g_appSO (o := (r_15 : NL Int)) (ys := ([x_9] : List Int)) (t2 := (.at 37 [])) (lo2 := 0) rfl rfl rfl (gone_clear (s := s) (pk := [35, 37, 38]) (t := 38) rfl) (by simp) E_ap_16 (fun s_11 hl_11 => ?_)
        refine g_v1 (t := 2) (u := (.int .i64 width_3)) (.int .i64 width_3) (show s_11 2 = (.int .i64 width_3) from (hl_11 2 (by decide)).trans (keep_clear (s := s) (pk := [35, 37, 38]) h2 rfl rfl)) rfl rfl ?_
        obtain ⟨r_17, E_r_17, h⟩ := bind_some h
        refine g_callS (rl := 38) (m := 0) (al := true) (r := (.tup [Enc.enc (r_17.1 : (List Int)), Enc.enc (r_17.2 : Bool)])) [Enc.enc (g_1 : (Int × (List (Int × Int)))), Enc.enc (ap_16 : (List Int)), Enc.enc (width_3 : Int)] (by exact (ta_cons (v := (.agg [(.int .i64 g_1.1), (Enc.enc (g_1.2 : List (Int × Int)))])) (show s_11 33 = (.agg [(.int .i64 g_1.1), (Enc.enc (g_1.2 : List (Int × Int)))]) from (hl_11 33 (by decide)).trans rfl) rfl (Enc.erase_enc (g_1 : (Int × (List (Int × Int))))) (ta_lin (r := 38) (v := (encO (.at 38 []) (.of (ap_16 : List Int)))) rfl (erase_encO (o := .of ap_16)) (ta_cons (v := (.int .i64 width_3)) rfl rfl rfl ta_nil)))) (H.c79 _ _ _ _ E_r_17) H.g79 (by exact (hal_of (ht_cons (v := (.agg [(.int .i64 g_1.1), (Enc.enc (g_1.2 : List (Int × Int)))])) (show s_11 33 = (.agg [(.int .i64 g_1.1), (Enc.enc (g_1.2 : List (Int × Int)))]) from (hl_11 33 (by decide)).trans rfl) rfl rfl (ht_lin (r := 38) (o := (.of ap_16 : NL Int)) rfl (ht_cons (v := (.int .i64 width_3)) rfl rfl rfl ht_nil))))) rfl rfl rfl ?_
        refine g_v1 (t := 40) (u := (.tup [(Enc.enc (r_17.1 : List Int)), (.bool r_17.2)])) (.tup [(Enc.enc (r_17.1 : List Int)), (.bool r_17.2)]) rfl rfl rfl ?_
        refine g_v1 (t := 32) (u := (.tup [(Enc.enc (r_17.1 : List Int)), (.bool r_17.2)])) (Enc.enc (r_17.1 : List Int)) rfl rfl rfl ?_
        refine g_v1 (t := 32) (u := (.tup [(Enc.enc (r_17.1 : List Int)), (.bool r_17.2)])) (.bool r_17.2) rfl rfl rfl ?_
        refine g_v1 (t := 41) (u := (Enc.enc (r_17.1 : List Int))) (Enc.enc (r_17.1 : List Int)) rfl rfl rfl ?_
        refine g_v1 (t := 42) (u := (.bool r_17.2)) (.bool r_17.2) rfl rfl rfl ?_
        refine g_end ?_
        refine e_end ?_
        refine renew [(1, (Enc.enc (begun_2 : List Int))), (2, (.int .i64 width_3)), (3, (.ref (.bx 3) 0 [] (.agg [(.int .i64 g_1.1), (Enc.enc (g_1.2 : List (Int × Int)))]))), (6, (.sl .nl (Enc.shp Int) 0 [])), (7, (.bool false)), (8, (.int .i64 x_9)), (9, (Enc.enc (r_17.1 : List Int))), (10, (.bool r_17.2))] ⟨(show s_11 1 = (Enc.enc (begun_2 : List Int)) from (hl_11 1 (by decide)).trans (keep_clear (s := s) (pk := [35, 37, 38]) h1 rfl (Enc.map_enc _ (begun_2 : List Int)))), (show s_11 2 = (.int .i64 width_3) from (hl_11 2 (by decide)).trans (keep_clear (s := s) (pk := [35, 37, 38]) h2 rfl rfl)), (show s_11 3 = (.ref (.bx 3) 0 [] (.agg [(.int .i64 g_1.1), (Enc.enc (g_1.2 : List (Int × Int)))])) from (hl_11 3 (by decide)).trans (keep_clear (s := s) (pk := [35, 37, 38]) h3 rfl (map_bx rfl (map_agg (maps_cons rfl (maps_cons (Enc.map_enc _ (g_1.2 : List (Int × Int))) maps_nil)))))), (show s_11 6 = (.sl .nl (Enc.shp Int) 0 []) from (hl_11 6 (by decide)).trans (keep_clear (s := s) (pk := [35, 37, 38]) h6 rfl rfl)), (show s_11 7 = (.bool false) from (hl_11 7 (by decide)).trans (keep_clear (s := s) (pk := [35, 37, 38]) h7 rfl rfl)), (show s_11 8 = (.int .i64 x_9) from (hl_11 8 (by decide)).trans (keep_clear (s := s) (pk := [35, 37, 38]) h8 rfl rfl)), rfl, rfl⟩ ?_
        rintro s ⟨h1, h2, h3, h6, h7, h8, h9, h10⟩
        refine .nsq ?_
        refine .seq ?_
        refine run_reg ?_
        refine e_end ?_
        refine g_v1 (t := 10) (u := (.bool r_17.2)) (.bool r_17.2) h10 rfl rfl ?_
        refine g_end ?_
        refine e_end ?_
        refine renew [(1, (Enc.enc (begun_2 : List Int))), (2, (.int .i64 width_3)), (3, (.ref (.bx 3) 0 [] (.agg [(.int .i64 g_1.1), (Enc.enc (g_1.2 : List (Int × Int)))]))), (6, (.sl .nl (Enc.shp Int) 0 [])), (7, (.bool false)), (8, (.int .i64 x_9)), (9, (Enc.enc (r_17.1 : List Int))), (43, (.bool r_17.2))] ⟨h1, h2, h3, h6, h7, h8, h9, rfl⟩ ?_
        rintro s ⟨h1, h2, h3, h6, h7, h8, h9, h43⟩
        refine .nsq ?_
        refine run_cond (t := r_17.2) h43 h (fun h => ?_) (fun h => ?_)
        · refine .seq ?_
          refine run_reg ?_
          refine e_end ?_
          refine g_v1 (t := 9) (u := (Enc.enc (r_17.1 : List Int))) (Enc.enc (r_17.1 : List Int)) h9 rfl rfl ?_
          refine g_v1 (t := 44) (u := (Enc.enc (r_17.1 : List Int))) (Enc.enc (r_17.1 : List Int)) rfl rfl rfl ?_
          refine g_v0 (.bool true) rfl rfl ?_
          refine g_end ?_
          refine e_end ?_
          refine renew [(1, (Enc.enc (begun_2 : List Int))), (2, (.int .i64 width_3)), (3, (.ref (.bx 3) 0 [] (.agg [(.int .i64 g_1.1), (Enc.enc (g_1.2 : List (Int × Int)))]))), (6, (Enc.enc (r_17.1 : List Int))), (7, (.bool true)), (8, (.int .i64 x_9))] ⟨h1, h2, h3, rfl, rfl, h8⟩ ?_
          rintro s ⟨h1, h2, h3, h6, h7, h8⟩
          refine .nsq ?_
          refine .ret ?_
          have hr := Option.some.inj h
          subst hr
          exact rrB (res_tmp h6) (res_tmp h7) (fin_ret1 (fin_tup (fins_cons (fin_enc (x := (r_17.1 : (List Int)))) (fins_cons (fin_enc (x := (true : Bool))) fins_nil))))
        · refine .skip ?_
          refine .nbk ?_
          refine .nsq ?_
          refine run_reg ?_
          refine e_end ?_
          refine g_v1 (t := 8) (u := (.int .i64 x_9)) (.int .i64 x_9) h8 rfl rfl ?_
          refine g_v1 (t := 27) (u := (.int .i64 x_9)) (.int .i64 (w64 (x_9 + 1))) rfl rfl rfl ?_
          refine g_v1 (t := 28) (u := (.int .i64 (w64 (x_9 + 1)))) (.int .i64 (w64 (x_9 + 1))) rfl rfl rfl ?_
          refine g_end ?_
          refine e_end ?_
          refine renew [(1, (Enc.enc (begun_2 : List Int))), (2, (.int .i64 width_3)), (3, (.ref (.bx 3) 0 [] (.agg [(.int .i64 g_1.1), (Enc.enc (g_1.2 : List (Int × Int)))]))), (6, (.sl .nl (Enc.shp Int) 0 [])), (7, (.bool false)), (8, (.int .i64 (w64 (x_9 + 1))))] ⟨h1, h2, h3, h6, h7, rfl⟩ ?_
          rintro s ⟨h1, h2, h3, h6, h7, h8⟩
          refine .nlp ?_
          exact ih (w64 (x_9 + 1)) _ ⟨h1, h2, h3, h6, h7, h8⟩ h
    · refine .exit ?_
      refine .esq ?_
      refine .elp ?_
      refine .ebk ?_
      refine .nsq ?_
      refine .seq ?_
      refine run_reg ?_
      refine e_clr ?_
      refine e_end ?_
      refine g_litL [] [] trivial rfl rfl (gone_clear (s := s) (pk := [45]) (t := 45) rfl) ?_
      refine g_v1 (t := 45) (u := (encO (.at 45 []) (.of ([] : List Int)))) (encO (.at 45 []) (.of ([] : List Int))) rfl rfl rfl ?_
      refine g_v0 (.bool false) rfl rfl ?_
      refine g_end ?_
      refine e_home (r := 45) (x := 6) (v := (encO (.at 45 []) (.of ([] : List Int)))) (by exact rfl) rfl (fun s_13 hg_13 => ?_)
      refine e_end ?_
      refine renew [(6, (encO (.at 6 []) (.of ([] : List Int)))), (7, (.bool false))] ⟨(hg_13 6 (encO (.at 45 []) (.of ([] : List Int))) (encO (.at 6 []) (.of ([] : List Int))) rfl (map_encO (r := 45) (p := []) rfl rfl)), (hg_13 7 (.bool false) (.bool false) rfl rfl)⟩ ?_
      rintro s ⟨h6, h7⟩
      refine .nsq ?_
      refine .ret ?_
      have hr := Option.some.inj h
      subst hr
      exact rrB (res_tmp h6) (res_tmp h7) (fin_ret1 (fin_tup (fins_cons (fin_own (o := .of [])) (fins_cons (fin_enc (x := (false : Bool))) fins_nil))))
def s_l7Layout_b (F : Nat) (rc : (Int × (List (Int × Int))) → (List Int) → Int → Option ((List Int) × Bool)) (g_1 : (Int × (List (Int × Int)))) (begun_2 : (List Int)) (width_3 : Int) : Option ((List Int) × Bool) :=
  (s_l7Fits F g_1 begun_2 width_3).bind fun r_4 =>
  bif (!r_4) then
    some ([], false)
  else
    bif ((begun_2.length : Int) == g_1.1) then
      some (begun_2, true)
    else
      s_l7Layout_l1 F rc begun_2 width_3 g_1 F 0
theorem t79 (H : H79 D σ F rc) (g_1 : (Int × (List (Int × Int)))) (begun_2 : (List Int)) (width_3 : Int) (s : Nat → V) (hs : Facts [(0, (.agg [(.int .i64 g_1.1), (Enc.enc (g_1.2 : List (Int × Int)))])), (1, (Enc.enc (begun_2 : List Int))), (2, (.int .i64 width_3))] s) (h : s_l7Layout_b F rc g_1 begun_2 width_3 = some r) : Run D σ (R79 r) (.run A79 []) s := by
  unfold s_l7Layout_b at h
  obtain ⟨h0, h1, h2⟩ := hs
  refine .seq ?_
  refine run_reg ?_
  refine e_clr ?_
  refine e_end ?_
  refine g_box (.agg [(.int .i64 g_1.1), (Enc.enc (g_1.2 : List (Int × Int)))]) (rd_of (keep_clear (s := s) (pk := [3]) h0 rfl (map_agg (maps_cons rfl (maps_cons (Enc.map_enc _ (g_1.2 : List (Int × Int))) maps_nil)))) rfl) (gone_clear (s := s) (pk := [3]) (t := 3) rfl) rfl ?_
  refine g_v0 (.sl .nl (Enc.shp Int) 0 []) rfl rfl ?_
  refine g_v0 (.bool false) rfl rfl ?_
  refine g_end ?_
  refine e_end ?_
  refine renew [(1, (Enc.enc (begun_2 : List Int))), (2, (.int .i64 width_3)), (3, (.ref (.bx 3) 0 [] (.agg [(.int .i64 g_1.1), (Enc.enc (g_1.2 : List (Int × Int)))]))), (6, (.sl .nl (Enc.shp Int) 0 [])), (7, (.bool false))] ⟨(keep_clear (s := s) (pk := [3]) h1 rfl (Enc.map_enc _ (begun_2 : List Int))), (keep_clear (s := s) (pk := [3]) h2 rfl rfl), rfl, rfl, rfl⟩ ?_
  rintro s ⟨h1, h2, h3, h6, h7⟩
  refine .nsq ?_
  refine .seq ?_
  refine .seq ?_
  refine run_reg ?_
  refine e_end ?_
  refine g_v1 (t := 3) (u := (.ref (.bx 3) 0 [] (.agg [(.int .i64 g_1.1), (Enc.enc (g_1.2 : List (Int × Int)))]))) (.agg [(.int .i64 g_1.1), (Enc.enc (g_1.2 : List (Int × Int)))]) h3 rfl rfl ?_
  refine g_v1 (t := 1) (u := (Enc.enc (begun_2 : List Int))) (Enc.enc (begun_2 : List Int)) h1 rfl rfl ?_
  refine g_v1 (t := 2) (u := (.int .i64 width_3)) (.int .i64 width_3) h2 rfl rfl ?_
  obtain ⟨r_4, E_r_4, h⟩ := bind_some h
  refine g_call (m := 0) (al := false) (r := (Enc.enc (r_4 : Bool))) [Enc.enc (g_1 : (Int × (List (Int × Int)))), Enc.enc (begun_2 : (List Int)), Enc.enc (width_3 : Int)] (ta_cons (v := (.agg [(.int .i64 g_1.1), (Enc.enc (g_1.2 : List (Int × Int)))])) rfl rfl (Enc.erase_enc (g_1 : (Int × (List (Int × Int))))) (ta_cons (v := (Enc.enc (begun_2 : List Int))) rfl rfl (Enc.erase_enc (begun_2 : (List Int))) (ta_cons (v := (.int .i64 width_3)) rfl rfl rfl ta_nil))) (H.c115 _ _ _ _ E_r_4) H.g115 rfl rfl rfl rfl ?_
  refine g_v1 (t := 14) (u := (.bool r_4)) (.bool (!r_4)) rfl rfl rfl ?_
  refine g_end ?_
  refine e_end ?_
  refine renew [(1, (Enc.enc (begun_2 : List Int))), (2, (.int .i64 width_3)), (3, (.ref (.bx 3) 0 [] (.agg [(.int .i64 g_1.1), (Enc.enc (g_1.2 : List (Int × Int)))]))), (6, (.sl .nl (Enc.shp Int) 0 [])), (7, (.bool false)), (15, (.bool (!r_4)))] ⟨h1, h2, h3, h6, h7, rfl⟩ ?_
  rintro s ⟨h1, h2, h3, h6, h7, h15⟩
  refine .nsq ?_
  refine run_cond (t := (!r_4)) h15 h (fun h => ?_) (fun h => ?_)
  · refine .seq ?_
    refine run_reg ?_
    refine e_clr ?_
    refine e_end ?_
    refine g_litL [] [] trivial rfl rfl (gone_clear (s := s) (pk := [16]) (t := 16) rfl) ?_
    refine g_v1 (t := 16) (u := (encO (.at 16 []) (.of ([] : List Int)))) (encO (.at 16 []) (.of ([] : List Int))) rfl rfl rfl ?_
    refine g_v0 (.bool false) rfl rfl ?_
    refine g_end ?_
    refine e_home (r := 16) (x := 6) (v := (encO (.at 16 []) (.of ([] : List Int)))) (by exact rfl) rfl (fun s_5 hg_5 => ?_)
    refine e_end ?_
    refine renew [(1, (Enc.enc (begun_2 : List Int))), (2, (.int .i64 width_3)), (3, (.ref (.bx 3) 0 [] (.agg [(.int .i64 g_1.1), (Enc.enc (g_1.2 : List (Int × Int)))]))), (6, (encO (.at 6 []) (.of ([] : List Int)))), (7, (.bool false))] ⟨(hg_5 1 (Enc.enc (begun_2 : List Int)) (Enc.enc (begun_2 : List Int)) (keep_clear (s := s) (pk := [16]) h1 rfl (Enc.map_enc _ (begun_2 : List Int))) (Enc.map_enc _ (begun_2 : List Int))), (hg_5 2 (.int .i64 width_3) (.int .i64 width_3) (keep_clear (s := s) (pk := [16]) h2 rfl rfl) rfl), (hg_5 3 (.ref (.bx 3) 0 [] (.agg [(.int .i64 g_1.1), (Enc.enc (g_1.2 : List (Int × Int)))])) (.ref (.bx 3) 0 [] (.agg [(.int .i64 g_1.1), (Enc.enc (g_1.2 : List (Int × Int)))])) (keep_clear (s := s) (pk := [16]) h3 rfl (map_bx rfl (map_agg (maps_cons rfl (maps_cons (Enc.map_enc _ (g_1.2 : List (Int × Int))) maps_nil))))) (map_bx rfl (map_agg (maps_cons rfl (maps_cons (Enc.map_enc _ (g_1.2 : List (Int × Int))) maps_nil))))), (hg_5 6 (encO (.at 16 []) (.of ([] : List Int))) (encO (.at 6 []) (.of ([] : List Int))) rfl (map_encO (r := 16) (p := []) rfl rfl)), (hg_5 7 (.bool false) (.bool false) rfl rfl)⟩ ?_
    rintro s ⟨h1, h2, h3, h6, h7⟩
    refine .nsq ?_
    refine .ret ?_
    have hr := Option.some.inj h
    subst hr
    exact rrB (res_tmp h6) (res_tmp h7) (fin_ret1 (fin_tup (fins_cons (fin_own (o := .of [])) (fins_cons (fin_enc (x := (false : Bool))) fins_nil))))
  · refine .skip ?_
    refine .nsq ?_
    refine .seq ?_
    refine .seq ?_
    refine run_reg ?_
    refine e_end ?_
    refine g_v1 (t := 1) (u := (Enc.enc (begun_2 : List Int))) (Enc.enc (begun_2 : List Int)) h1 rfl rfl ?_
    refine g_v (.int .i64 (begun_2.length : Int)) (ev_len (xs := begun_2) rfl) ?_
    refine g_v1 (t := 3) (u := (.ref (.bx 3) 0 [] (.agg [(.int .i64 g_1.1), (Enc.enc (g_1.2 : List (Int × Int)))]))) (.ref (.bx 3) 0 [0] (.int .i64 g_1.1)) h3 rfl rfl ?_
    refine g_v1 (t := 19) (u := (.ref (.bx 3) 0 [0] (.int .i64 g_1.1))) (.int .i64 g_1.1) rfl rfl rfl ?_
    refine g_v2 (t1 := 18) (t2 := 20) (u1 := (.int .i64 (begun_2.length : Int))) (u2 := (.int .i64 g_1.1)) (.bool ((begun_2.length : Int) == g_1.1)) rfl rfl rfl rfl ?_
    refine g_end ?_
    refine e_end ?_
    refine renew [(1, (Enc.enc (begun_2 : List Int))), (2, (.int .i64 width_3)), (3, (.ref (.bx 3) 0 [] (.agg [(.int .i64 g_1.1), (Enc.enc (g_1.2 : List (Int × Int)))]))), (6, (.sl .nl (Enc.shp Int) 0 [])), (7, (.bool false)), (21, (.bool ((begun_2.length : Int) == g_1.1)))] ⟨h1, h2, h3, h6, h7, rfl⟩ ?_
    rintro s ⟨h1, h2, h3, h6, h7, h21⟩
    refine .nsq ?_
    refine run_cond (t := ((begun_2.length : Int) == g_1.1)) h21 h (fun h => ?_) (fun h => ?_)
    · refine .seq ?_
      refine run_reg ?_
      refine e_end ?_
      refine g_v1 (t := 1) (u := (Enc.enc (begun_2 : List Int))) (Enc.enc (begun_2 : List Int)) h1 rfl rfl ?_
      refine g_v1 (t := 22) (u := (Enc.enc (begun_2 : List Int))) (Enc.enc (begun_2 : List Int)) rfl rfl rfl ?_
      refine g_v0 (.bool true) rfl rfl ?_
      refine g_end ?_
      refine e_end ?_
      refine renew [(1, (Enc.enc (begun_2 : List Int))), (2, (.int .i64 width_3)), (3, (.ref (.bx 3) 0 [] (.agg [(.int .i64 g_1.1), (Enc.enc (g_1.2 : List (Int × Int)))]))), (6, (Enc.enc (begun_2 : List Int))), (7, (.bool true))] ⟨h1, h2, h3, rfl, rfl⟩ ?_
      rintro s ⟨h1, h2, h3, h6, h7⟩
      refine .nsq ?_
      refine .ret ?_
      have hr := Option.some.inj h
      subst hr
      exact rrB (res_tmp h6) (res_tmp h7) (fin_ret1 (fin_tup (fins_cons (fin_enc (x := (begun_2 : (List Int)))) (fins_cons (fin_enc (x := (true : Bool))) fins_nil))))
    · refine .skip ?_
      refine .nsq ?_
      refine .seq ?_
      refine .seq ?_
      refine run_reg ?_
      refine e_end ?_
      refine g_v0 (.int .i64 0) rfl rfl ?_
      refine g_end ?_
      refine e_end ?_
      refine renew [(1, (Enc.enc (begun_2 : List Int))), (2, (.int .i64 width_3)), (3, (.ref (.bx 3) 0 [] (.agg [(.int .i64 g_1.1), (Enc.enc (g_1.2 : List (Int × Int)))]))), (6, (.sl .nl (Enc.shp Int) 0 [])), (7, (.bool false)), (8, (.int .i64 0))] ⟨h1, h2, h3, h6, h7, rfl⟩ ?_
      rintro s ⟨h1, h2, h3, h6, h7, h8⟩
      refine .nsq ?_
      refine .block ?_
      refine .loop ?_
      exact t_f79_l1 H begun_2 width_3 g_1 F 0 _ ⟨h1, h2, h3, h6, h7, h8⟩ h
end
def s_l7Layout_r (F : Nat) : Nat → (Int × (List (Int × Int))) → (List Int) → Int → Option ((List Int) × Bool)
  | 0, _, _, _ => none
  | k + 1, x0, x1, x2 => s_l7Layout_b F (s_l7Layout_r F k) x0 x1 x2
def s_l7Layout (F : Nat) (x0 : (Int × (List (Int × Int)))) (x1 : (List Int)) (x2 : Int) : Option ((List Int) × Bool) := s_l7Layout_r F F x0 x1 x2
def e79 (F : Nat) (k : Nat) : Ent := ⟨79, da (fun (x : ((Int × (List (Int × Int))) × (List Int) × Int × Unit)) => s_l7Layout_r F k x.1 x.2.1 x.2.2.1) (fun (r : ((List Int) × Bool)) => (.tup [Enc.enc (r.1 : (List Int)), Enc.enc (r.2 : Bool)])), 0, true, selF []⟩
theorem p79 {F : Nat} {k : Nat} {x0 : (Int × (List (Int × Int)))} {x1 : (List Int)} {x2 : Int} {r : ((List Int) × Bool)} (h : s_l7Layout_r F k x0 x1 x2 = some r) : (e79 F k).den [Enc.enc x0, Enc.enc x1, Enc.enc x2] = some (.tup [Enc.enc (r.1 : (List Int)), Enc.enc (r.2 : Bool)]) := da_put (f := fun (x : ((Int × (List (Int × Int))) × (List Int) × Int × Unit)) => s_l7Layout_r F k x.1 x.2.1 x.2.2.1) (t := fun (r : ((List Int) × Bool)) => (.tup [Enc.enc (r.1 : (List Int)), Enc.enc (r.2 : Bool)])) (x0, x1, x2, ()) h
theorem z79 {F : Nat} : (e79 F 0).Ok Try.prog := by
  refine ok_of (f := 79) (show unk 79 = 79 from rfl) (fun args r h => ?_) ⟨Try.f79, Try.func79, rfl, rfl⟩
  obtain ⟨⟨x0, x1, x2, _⟩, y, rfl, hy, rfl⟩ := da_open h
  cases hy
theorem o79 {D : Den} {σ : Sig} {F k : Nat} (hF : Fits2 Try.prog D σ) (H : H79 D σ F (s_l7Layout_r F k)) : (e79 F (k + 1)).Ok Try.prog := by
  refine ok_of (f := 79) (show unk 79 = 79 from rfl) (fun args r h => ?_) ⟨Try.f79, Try.func79, rfl, rfl⟩
  obtain ⟨⟨x0, x1, x2, _⟩, y, rfl, hy, rfl⟩ := da_open h
  exact contract_run hF (by kernel_rfl) Try.func79 rfl c79 (show 3 ≤ Try.f79.ntmps by decide) (t79 H x0 x1 x2 _ ⟨rfl, rfl, rfl⟩ hy)
end Go.Zq
