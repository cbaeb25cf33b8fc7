/- Functions of the program as typed functions, and that the machine runs as they say (part 1). No further condition. -/
import Derived.Test.YtonidecbmdpfhaaK3
import Derived.Test.YtonidecbmdpfhaaProg
import Derived.Test.YtonidecbmdpfhaaChecked
import Derived.KernelRfl
set_option linter.unusedVariables false
set_option linter.unusedSimpArgs false
/- Functions of the program, as typed functions, and that the machine runs as they say. -/
namespace Go.Zq
open Go.Proofs
/- loop.example/g01109/laws.szIntA2S -/
def A47_3 : AC := (AC.cond (O.t 10) (AC.seq (AC.reg [] [(I.mk (some 4) none false (X.v (A.mov (O.k (V.int IntKind.i64 (Int.negSucc 0))))))] []) AC.ret) AC.skip)
def A47_4 : AC := (AC.seq (AC.reg [] [(I.mk (some 11) none false (X.v (A.mov (O.t 1)))), (I.mk (some 4) none false (X.v (A.mov (O.t 11))))] []) AC.ret)
def A47_2 : AC := (AC.seq (AC.seq (AC.reg [] [(I.mk (some 9) none false (X.v (A.mov (O.t 1)))), (I.mk (some 10) none false (X.v (A.bin BinOp.lss (O.t 9) (O.k (V.int IntKind.i64 (Int.ofNat 0))))))] []) A47_3) A47_4)
def A47_1 : AC := (AC.seq (AC.reg [] [(I.mk (some 5) none false (X.v (A.mov (O.t 1)))), (I.mk (some 6) none false (X.v (A.mov (O.t 0)))), (I.mk (some 7) none false (X.v (A.len (O.t 6)))), (I.mk (some 8) none false (X.v (A.bin BinOp.sub (O.t 5) (O.t 7)))), (I.mk (some 1) none false (X.v (A.mov (O.t 8))))] []) A47_2)
def A47 : AC := (AC.seq (AC.reg [] [(I.mk (some 4) none false (X.v (A.mov (O.k (V.int IntKind.i64 (Int.ofNat 0))))))] []) A47_1)
def an47 : List An := []
theorem c47 : cC Try.prog Try.f47.ntmps an47 (Try.f47.body.getD .skip) = some A47 := by kernel_rfl
structure H47 (D : Den) (σ : Sig) (F : Nat) : Prop where
  mk ::
abbrev R47 (r : Int) : (Nat → V) → Prop := RR Try.prog [.tmp 4] 0 false (Enc.enc (r : Int))
section
variable {D : Den} {σ : Sig} {F : Nat} {r : Int}
def w_szIntA2S (F : Nat) (a_1 : (List (Int × Int))) (left_2 : Int) : Option Int :=
  bif decide ((w64 (left_2 - (a_1.length : Int))) < 0) then
    some (-1)
  else
    some (w64 (left_2 - (a_1.length : Int)))
theorem t47 (H : H47 D σ F) (a_1 : (List (Int × Int))) (left_2 : Int) (s : Nat → V) (hs : Facts [(0, (Enc.enc (a_1 : List (Int × Int)))), (1, (.int .i64 left_2))] s) (h : w_szIntA2S F a_1 left_2 = some r) : Run D σ (R47 r) (.run A47 []) s := by
  unfold w_szIntA2S at h
  obtain ⟨h0, h1⟩ := hs
  refine .seq ?_
  refine run_reg ?_
  refine e_end ?_
  refine g_v0 (.int .i64 0) rfl rfl ?_
  refine g_end ?_
  refine e_end ?_
  refine renew [(0, (Enc.enc (a_1 : List (Int × Int)))), (1, (.int .i64 left_2)), (4, (.int .i64 0))] ⟨h0, h1, rfl⟩ ?_
  rintro s ⟨h0, h1, h4⟩
  refine .nsq ?_
  refine .seq ?_
  refine run_reg ?_
  refine e_end ?_
  refine g_v1 (t := 1) (u := (.int .i64 left_2)) (.int .i64 left_2) h1 rfl rfl ?_
  refine g_v1 (t := 0) (u := (Enc.enc (a_1 : List (Int × Int)))) (Enc.enc (a_1 : List (Int × Int))) h0 rfl rfl ?_
  refine g_v (.int .i64 (a_1.length : Int)) (ev_len (xs := a_1) rfl) ?_
  refine g_v2 (t1 := 5) (t2 := 7) (u1 := (.int .i64 left_2)) (u2 := (.int .i64 (a_1.length : Int))) (.int .i64 (w64 (left_2 - (a_1.length : Int)))) rfl rfl rfl rfl ?_
  refine g_v1 (t := 8) (u := (.int .i64 (w64 (left_2 - (a_1.length : Int))))) (.int .i64 (w64 (left_2 - (a_1.length : Int)))) rfl rfl rfl ?_
  refine g_end ?_
  refine e_end ?_
  refine renew [(1, (.int .i64 (w64 (left_2 - (a_1.length : Int))))), (4, (.int .i64 0))] ⟨rfl, h4⟩ ?_
  rintro s ⟨h1, h4⟩
  refine .nsq ?_
  refine .seq ?_
  refine .seq ?_
  refine run_reg ?_
  refine e_end ?_
  refine g_v1 (t := 1) (u := (.int .i64 (w64 (left_2 - (a_1.length : Int))))) (.int .i64 (w64 (left_2 - (a_1.length : Int)))) h1 rfl rfl ?_
  refine g_v1 (t := 9) (u := (.int .i64 (w64 (left_2 - (a_1.length : Int))))) (.bool (decide ((w64 (left_2 - (a_1.length : Int))) < 0))) rfl rfl rfl ?_
  refine g_end ?_
  refine e_end ?_
  refine renew [(1, (.int .i64 (w64 (left_2 - (a_1.length : Int))))), (4, (.int .i64 0)), (10, (.bool (decide ((w64 (left_2 - (a_1.length : Int))) < 0))))] ⟨h1, h4, rfl⟩ ?_
  rintro s ⟨h1, h4, h10⟩
  refine .nsq ?_
  refine run_cond (t := decide ((w64 (left_2 - (a_1.length : Int))) < 0)) h10 h (fun h => ?_) (fun h => ?_)
  · refine .seq ?_
    refine run_reg ?_
    refine e_end ?_
    refine g_v0 (.int .i64 (-1)) rfl rfl ?_
    refine g_end ?_
    refine e_end ?_
    refine renew [(1, (.int .i64 (w64 (left_2 - (a_1.length : Int))))), (4, (.int .i64 (-1)))] ⟨h1, rfl⟩ ?_
    rintro s ⟨h1, h4⟩
    refine .nsq ?_
    refine .ret ?_
    have hr := Option.some.inj h
    subst hr
    exact rrA (res_tmp h4) rfl
  · refine .skip ?_
    refine .nsq ?_
    refine .seq ?_
    refine run_reg ?_
    refine e_end ?_
    refine g_v1 (t := 1) (u := (.int .i64 (w64 (left_2 - (a_1.length : Int))))) (.int .i64 (w64 (left_2 - (a_1.length : Int)))) h1 rfl rfl ?_
    refine g_v1 (t := 11) (u := (.int .i64 (w64 (left_2 - (a_1.length : Int))))) (.int .i64 (w64 (left_2 - (a_1.length : Int)))) rfl rfl rfl ?_
    refine g_end ?_
    refine e_end ?_
    refine renew [(4, (.int .i64 (w64 (left_2 - (a_1.length : Int)))))] rfl ?_
    rintro s h4
    refine .nsq ?_
    refine .ret ?_
    have hr := Option.some.inj h
    subst hr
    exact rrA (res_tmp h4) rfl
end
def e47 (F : Nat) : Ent := ⟨47, da (fun (x : ((List (Int × Int)) × Int × Unit)) => w_szIntA2S F x.1 x.2.1) (fun (r : Int) => (Enc.enc (r : Int))), 0, false, selF []⟩
theorem p47 {F : Nat} {x0 : (List (Int × Int))} {x1 : Int} {r : Int} (h : w_szIntA2S F x0 x1 = some r) : (e47 F).den [Enc.enc x0, Enc.enc x1] = some (Enc.enc (r : Int)) := da_put (f := fun (x : ((List (Int × Int)) × Int × Unit)) => w_szIntA2S F x.1 x.2.1) (t := fun (r : Int) => (Enc.enc (r : Int))) (x0, x1, ()) h
theorem o47 {D : Den} {σ : Sig} {F : Nat} (hF : Fits2 Try.prog D σ) (H : H47 D σ F) : (e47 F).Ok Try.prog := by
  refine ok_of (f := 47) (show unk 47 = 47 from rfl) (fun args r h => ?_) ⟨Try.f47, Try.func47, rfl, rfl⟩
  obtain ⟨⟨x0, x1, _⟩, y, rfl, hy, rfl⟩ := da_open h
  exact contract_run hF (by kernel_rfl) Try.func47 rfl c47 (show 2 ≤ Try.f47.ntmps by decide) (t47 H x0 x1 _ ⟨rfl, rfl⟩ hy)
/- loop.example/g01109/laws.szGraph -/
def A15_3 : AC := (AC.cond (O.t 10) (AC.seq (AC.reg [] [(I.mk (some 4) none false (X.v (A.mov (O.k (V.int IntKind.i64 (Int.negSucc 0))))))] []) AC.ret) AC.skip)
def A15_4 : AC := (AC.seq (AC.reg [] [(I.mk (some 11) none false (X.v (A.mov (O.t 1)))), (I.mk (some 4) none false (X.v (A.mov (O.t 11))))] []) AC.ret)
def A15_2 : AC := (AC.seq (AC.seq (AC.reg [] [(I.mk (some 9) none false (X.v (A.mov (O.t 1)))), (I.mk (some 10) none false (X.v (A.bin BinOp.lss (O.t 9) (O.k (V.int IntKind.i64 (Int.ofNat 0))))))] []) A15_3) A15_4)
def A15_1 : AC := (AC.seq (AC.reg [] [(I.mk (some 5) none false (X.v (A.fld (O.t 2) 1 1))), (I.mk (some 6) none false (X.v (A.load Sh.p (O.t 5)))), (I.mk (some 7) none false (X.v (A.mov (O.t 1)))), (I.mk (some 8) none false (X.call (O.k (V.fn 47 [] [])) [(O.t 6), (O.t 7)])), (I.mk (some 1) none false (X.v (A.mov (O.t 8))))] []) A15_2)
def A15 : AC := (AC.seq (AC.reg [.clr [2]] [(I.mk (some 2) none false (X.box (O.t 0))), (I.mk (some 4) none false (X.v (A.mov (O.k (V.int IntKind.i64 (Int.ofNat 0))))))] []) A15_1)
def an15 : List An := [{ id := 0, pre := [.clr [2]], ep := [], lin := [], sp := [] }]
theorem c15 : cC Try.prog Try.f15.ntmps an15 (Try.f15.body.getD .skip) = some A15 := by kernel_rfl
structure H15 (D : Den) (σ : Sig) (F : Nat) : Prop where
  c47 : ∀ (x0 : (List (Int × Int))) (x1 : Int) r, w_szIntA2S F x0 x1 = some r → D 47 [Enc.enc x0, Enc.enc x1] = some (Enc.enc (r : Int))
  g47 : σ 47 = some (0, false)
abbrev R15 (r : Int) : (Nat → V) → Prop := RR Try.prog [.tmp 4] 0 false (Enc.enc (r : Int))
section
variable {D : Den} {σ : Sig} {F : Nat} {r : Int}
def w_szGraph (F : Nat) (a_1 : (Int × (List (Int × Int)))) (left_2 : Int) : Option Int :=
  (w_szIntA2S F a_1.2 left_2).bind fun r_3 =>
  bif decide (r_3 < 0) then
    some (-1)
  else
    some r_3
theorem t15 (H : H15 D σ F) (a_1 : (Int × (List (Int × Int)))) (left_2 : Int) (s : Nat → V) (hs : Facts [(0, (.agg [(.int .i64 a_1.1), (Enc.enc (a_1.2 : List (Int × Int)))])), (1, (.int .i64 left_2))] s) (h : w_szGraph F a_1 left_2 = some r) : Run D σ (R15 r) (.run A15 []) s := by
  unfold w_szGraph at h
  obtain ⟨h0, h1⟩ := hs
  refine .seq ?_
  refine run_reg ?_
  refine e_clr ?_
  refine e_end ?_
  refine g_box (.agg [(.int .i64 a_1.1), (Enc.enc (a_1.2 : List (Int × Int)))]) (rd_of (keep_clear (s := s) (pk := [2]) h0 rfl (map_agg (maps_cons rfl (maps_cons (Enc.map_enc _ (a_1.2 : List (Int × Int))) maps_nil)))) rfl) (gone_clear (s := s) (pk := [2]) (t := 2) rfl) rfl ?_
  refine g_v0 (.int .i64 0) rfl rfl ?_
  refine g_end ?_
  refine e_end ?_
  refine renew [(1, (.int .i64 left_2)), (2, (.ref (.bx 2) 0 [] (.agg [(.int .i64 a_1.1), (Enc.enc (a_1.2 : List (Int × Int)))]))), (4, (.int .i64 0))] ⟨(keep_clear (s := s) (pk := [2]) h1 rfl rfl), rfl, rfl⟩ ?_
  rintro s ⟨h1, h2, h4⟩
  refine .nsq ?_
  refine .seq ?_
  refine run_reg ?_
  refine e_end ?_
  refine g_v1 (t := 2) (u := (.ref (.bx 2) 0 [] (.agg [(.int .i64 a_1.1), (Enc.enc (a_1.2 : List (Int × Int)))]))) (.ref (.bx 2) 0 [1] (Enc.enc (a_1.2 : List (Int × Int)))) h2 rfl rfl ?_
  refine g_v1 (t := 5) (u := (.ref (.bx 2) 0 [1] (Enc.enc (a_1.2 : List (Int × Int))))) (Enc.enc (a_1.2 : List (Int × Int))) rfl rfl rfl ?_
  refine g_v1 (t := 1) (u := (.int .i64 left_2)) (.int .i64 left_2) h1 rfl rfl ?_
  obtain ⟨r_3, E_r_3, h⟩ := bind_some h
  refine g_call (m := 0) (al := false) (r := (Enc.enc (r_3 : Int))) [Enc.enc (a_1.2 : (List (Int × Int))), Enc.enc (left_2 : Int)] (ta_cons (v := (Enc.enc (a_1.2 : List (Int × Int)))) rfl rfl (Enc.erase_enc (a_1.2 : (List (Int × Int)))) (ta_cons (v := (.int .i64 left_2)) rfl rfl rfl ta_nil)) (H.c47 _ _ _ E_r_3) H.g47 rfl rfl rfl rfl ?_
  refine g_v1 (t := 8) (u := (.int .i64 r_3)) (.int .i64 r_3) rfl rfl rfl ?_
  refine g_end ?_
  refine e_end ?_
  refine renew [(1, (.int .i64 r_3)), (4, (.int .i64 0))] ⟨rfl, h4⟩ ?_
  rintro s ⟨h1, h4⟩
  refine .nsq ?_
  refine .seq ?_
  refine .seq ?_
  refine run_reg ?_
  refine e_end ?_
  refine g_v1 (t := 1) (u := (.int .i64 r_3)) (.int .i64 r_3) h1 rfl rfl ?_
  refine g_v1 (t := 9) (u := (.int .i64 r_3)) (.bool (decide (r_3 < 0))) rfl rfl rfl ?_
  refine g_end ?_
  refine e_end ?_
  refine renew [(1, (.int .i64 r_3)), (4, (.int .i64 0)), (10, (.bool (decide (r_3 < 0))))] ⟨h1, h4, rfl⟩ ?_
  rintro s ⟨h1, h4, h10⟩
  refine .nsq ?_
  refine run_cond (t := decide (r_3 < 0)) h10 h (fun h => ?_) (fun h => ?_)
  · refine .seq ?_
    refine run_reg ?_
    refine e_end ?_
    refine g_v0 (.int .i64 (-1)) rfl rfl ?_
    refine g_end ?_
    refine e_end ?_
    refine renew [(1, (.int .i64 r_3)), (4, (.int .i64 (-1)))] ⟨h1, rfl⟩ ?_
    rintro s ⟨h1, h4⟩
    refine .nsq ?_
    refine .ret ?_
    have hr := Option.some.inj h
    subst hr
    exact rrA (res_tmp h4) rfl
  · refine .skip ?_
    refine .nsq ?_
    refine .seq ?_
    refine run_reg ?_
    refine e_end ?_
    refine g_v1 (t := 1) (u := (.int .i64 r_3)) (.int .i64 r_3) h1 rfl rfl ?_
    refine g_v1 (t := 11) (u := (.int .i64 r_3)) (.int .i64 r_3) rfl rfl rfl ?_
    refine g_end ?_
    refine e_end ?_
    refine renew [(4, (.int .i64 r_3))] rfl ?_
    rintro s h4
    refine .nsq ?_
    refine .ret ?_
    have hr := Option.some.inj h
    subst hr
    exact rrA (res_tmp h4) rfl
end
def e15 (F : Nat) : Ent := ⟨15, da (fun (x : ((Int × (List (Int × Int))) × Int × Unit)) => w_szGraph F x.1 x.2.1) (fun (r : Int) => (Enc.enc (r : Int))), 0, false, selF []⟩
theorem p15 {F : Nat} {x0 : (Int × (List (Int × Int)))} {x1 : Int} {r : Int} (h : w_szGraph F x0 x1 = some r) : (e15 F).den [Enc.enc x0, Enc.enc x1] = some (Enc.enc (r : Int)) := da_put (f := fun (x : ((Int × (List (Int × Int))) × Int × Unit)) => w_szGraph F x.1 x.2.1) (t := fun (r : Int) => (Enc.enc (r : Int))) (x0, x1, ()) h
theorem o15 {D : Den} {σ : Sig} {F : Nat} (hF : Fits2 Try.prog D σ) (H : H15 D σ F) : (e15 F).Ok Try.prog := by
  refine ok_of (f := 15) (show unk 15 = 15 from rfl) (fun args r h => ?_) ⟨Try.f15, Try.func15, rfl, rfl⟩
  obtain ⟨⟨x0, x1, _⟩, y, rfl, hy, rfl⟩ := da_open h
  exact contract_run hF (by kernel_rfl) Try.func15 rfl c15 (show 2 ≤ Try.f15.ntmps by decide) (t15 H x0 x1 _ ⟨rfl, rfl⟩ hy)
/- loop.example/g01109/laws.toIntA2 -/
def A99_2 : AC := (AC.cond (O.t 6) AC.skip (AC.exit 0))
def A99_4 : AC := (AC.reg [] [(I.mk (some 7) none false (X.v (A.mov (O.t 4)))), (I.mk (some 8) none false (X.v (A.bin BinOp.add (O.t 7) (O.k (V.int IntKind.i64 (Int.ofNat 1)))))), (I.mk (some 4) none false (X.v (A.mov (O.t 8))))] [])
def A99_3 : AC := (AC.seq (AC.block 1 (AC.reg [] [(I.mk (some 9) none false (X.v (A.mov (O.t 4)))), (I.mk (some 10) none false (X.v (A.mov (O.t 4)))), (I.mk (some 11) none false (X.v (A.idxA (O.t 1) (O.t 10) 2 1))), (I.mk (some 12) none false (X.v (A.load Sh.s (O.t 11)))), (I.mk (some 13) none false (X.v (A.idxA (O.t 3) (O.t 9) 2 1))), (I.mk none none false (X.store Sh.s (O.t 13) (O.t 12)))] [])) A99_4)
def A99_1 : AC := (AC.seq (AC.seq (AC.reg [] [(I.mk (some 5) none false (X.v (A.mov (O.t 4)))), (I.mk (some 6) none false (X.v (A.bin BinOp.lss (O.t 5) (O.k (V.int IntKind.i64 (Int.ofNat 2))))))] []) A99_2) A99_3)
def A99_5 : AC := (AC.seq (AC.reg [] [(I.mk (some 14) none false (X.v (A.load (Sh.ag [Sh.s, Sh.s]) (O.t 3)))), (I.mk none none false (X.store (Sh.ag [Sh.s, Sh.s]) (O.t 2) (O.t 14)))] []) AC.ret)
def A99_8 : AC := (AC.block 0 (AC.loop A99_1))
def A99_7 : AC := (AC.seq (AC.seq (AC.reg [] [(I.mk (some 4) none false (X.v (A.mov (O.k (V.int IntKind.i64 (Int.ofNat 0))))))] []) A99_8) A99_5)
def A99_6 : AC := (AC.seq (AC.reg [.clr [3]] [(I.mk (some 3) none false (X.alloc (V.agg [(V.int IntKind.i64 (Int.ofNat 0)), (V.int IntKind.i64 (Int.ofNat 0))])))] []) A99_7)
def A99 : AC := (AC.seq (AC.reg [.clr [1, 2]] [(I.mk (some 1) none false (X.box (O.t 0))), (I.mk (some 2) none false (X.alloc (V.agg [(V.int IntKind.i64 (Int.ofNat 0)), (V.int IntKind.i64 (Int.ofNat 0))])))] []) A99_6)
def an99 : List An := [{ id := 0, pre := [.clr [1, 2]], ep := [], lin := [], sp := [] }, { id := 1, pre := [.clr [3]], ep := [], lin := [], sp := [] }]
theorem c99 : cC Try.prog Try.f99.ntmps an99 (Try.f99.body.getD .skip) = some A99 := by kernel_rfl
structure H99 (D : Den) (σ : Sig) (F : Nat) : Prop where
  mk ::
abbrev R99 (r : (Int × Int)) : (Nat → V) → Prop := RR Try.prog [.cell 2 75] 0 false (Enc.enc (r : (Int × Int)))
section
variable {D : Den} {σ : Sig} {F : Nat} {r : (Int × Int)}
def w_toIntA2_l1 (F : Nat) (a_1 : (Int × Int))  : Nat → Int → Int → Int → Option (Int × Int)
  | 0, _, _, _ => none
  | k + 1, out_2, i_3, out_6 =>
    bif decide (i_3 < 2) then
      (idx [a_1.1, a_1.2] i_3).bind fun e_9 =>
      (idx [out_2, out_6] i_3).bind fun e_10 =>
      (w_toIntA2_l1 F a_1 k) (bif i_3 == 0 then e_9 else out_2) (w64 (i_3 + 1)) (bif i_3 == 1 then e_9 else out_6)
    else
      some (out_2, out_6)
theorem t_f99_l1 (H : H99 D σ F) (a_1 : (Int × Int))  : ∀ (k : Nat) (out_2 : Int) (i_3 : Int) (out_6 : Int) (s : Nat → V), Facts [(1, (.ref (.bx 1) 0 [] (.agg [(.int .i64 a_1.1), (.int .i64 a_1.2)]))), (2, (.ref (.bx 2) 0 [] (.agg [(.int .i64 0), (.int .i64 0)]))), (3, (.ref (.bx 3) 0 [] (.agg [(.int .i64 out_2), (.int .i64 out_6)]))), (4, (.int .i64 i_3))] s → w_toIntA2_l1 F a_1 k out_2 i_3 out_6 = some r → Run D σ (R99 r) (.run A99_1 [.lp A99_1, .bk 0, .sq A99_5]) s := by
  intro k
  induction k with
  | zero => intro out_2 i_3 out_6 s _ h; exact nomatch (h : (none : Option _) = some r)
  | succ k ih =>
    intro out_2 i_3 out_6 s hs h
    rw [w_toIntA2_l1] at h
    obtain ⟨h1, h2, h3, h4⟩ := hs
    refine .seq ?_
    refine .seq ?_
    refine run_reg ?_
    refine e_end ?_
    refine g_v1 (t := 4) (u := (.int .i64 i_3)) (.int .i64 i_3) h4 rfl rfl ?_
    refine g_v1 (t := 5) (u := (.int .i64 i_3)) (.bool (decide (i_3 < 2))) rfl rfl rfl ?_
    refine g_end ?_
    refine e_end ?_
    refine renew [(1, (.ref (.bx 1) 0 [] (.agg [(.int .i64 a_1.1), (.int .i64 a_1.2)]))), (2, (.ref (.bx 2) 0 [] (.agg [(.int .i64 0), (.int .i64 0)]))), (3, (.ref (.bx 3) 0 [] (.agg [(.int .i64 out_2), (.int .i64 out_6)]))), (4, (.int .i64 i_3)), (6, (.bool (decide (i_3 < 2))))] ⟨h1, h2, h3, h4, rfl⟩ ?_
    rintro s ⟨h1, h2, h3, h4, h6⟩
    refine .nsq ?_
    refine run_cond (t := decide (i_3 < 2)) h6 h (fun h => ?_) (fun h => ?_)
    · refine .skip ?_
      refine .nsq ?_
      refine .seq ?_
      refine .block ?_
      refine run_reg ?_
      refine e_end ?_
      refine g_v1 (t := 4) (u := (.int .i64 i_3)) (.int .i64 i_3) h4 rfl rfl ?_
      refine g_v1 (t := 4) (u := (.int .i64 i_3)) (.int .i64 i_3) h4 rfl rfl ?_
      obtain ⟨e_9, E_e_9, h⟩ := bind_some h
      refine g_v (.ref (.bx 1) 0 [i_3.toNat] (.int .i64 e_9)) (ev_idxA (xs := [a_1.1, a_1.2]) (a := e_9) (n := i_3) (q := []) h1 rfl E_e_9 rfl rfl rfl) ?_
      refine g_v1 (t := 11) (u := (.ref (.bx 1) 0 [i_3.toNat] (.int .i64 e_9))) (.int .i64 e_9) rfl rfl rfl ?_
      obtain ⟨e_10, E_e_10, h⟩ := bind_some h
      refine g_v (.ref (.bx 3) 0 [i_3.toNat] (.int .i64 e_10)) (ev_idxA (xs := [out_2, out_6]) (a := e_10) (n := i_3) (q := []) h3 rfl E_e_10 rfl rfl rfl) ?_
      refine g_store (.int .i64 e_9) (rd_of rfl rfl) (rd_of rfl rfl) (by refine ⟨by decide, by decide, rfl, rfl, rfl, ?_⟩; first | rfl | simp [V.toks, V.tokss, Enc.toks_enc]) ?_
      refine g_end ?_
      refine e_end ?_
      refine renew [(1, (.ref (.bx 1) 0 [] (.agg [(.int .i64 a_1.1), (.int .i64 a_1.2)]))), (2, (.ref (.bx 2) 0 [] (.agg [(.int .i64 0), (.int .i64 0)]))), (3, (.ref (.bx 3) 0 [] (.agg [(.int .i64 (bif i_3 == 0 then e_9 else out_2)), (.int .i64 (bif i_3 == 1 then e_9 else out_6))]))), (4, (.int .i64 i_3))] ⟨(keep_mut h1 rfl), (keep_mut h2 rfl), (keep_mut h3 (mut_ix2 E_e_10 rfl)), (keep_mut h4 rfl)⟩ ?_
      rintro s ⟨h1, h2, h3, h4⟩
      refine .nbk ?_
      refine .nsq ?_
      refine run_reg ?_
      refine e_end ?_
      refine g_v1 (t := 4) (u := (.int .i64 i_3)) (.int .i64 i_3) h4 rfl rfl ?_
      refine g_v1 (t := 7) (u := (.int .i64 i_3)) (.int .i64 (w64 (i_3 + 1))) rfl rfl rfl ?_
      refine g_v1 (t := 8) (u := (.int .i64 (w64 (i_3 + 1)))) (.int .i64 (w64 (i_3 + 1))) rfl rfl rfl ?_
      refine g_end ?_
      refine e_end ?_
      refine renew [(1, (.ref (.bx 1) 0 [] (.agg [(.int .i64 a_1.1), (.int .i64 a_1.2)]))), (2, (.ref (.bx 2) 0 [] (.agg [(.int .i64 0), (.int .i64 0)]))), (3, (.ref (.bx 3) 0 [] (.agg [(.int .i64 (bif i_3 == 0 then e_9 else out_2)), (.int .i64 (bif i_3 == 1 then e_9 else out_6))]))), (4, (.int .i64 (w64 (i_3 + 1))))] ⟨h1, h2, h3, rfl⟩ ?_
      rintro s ⟨h1, h2, h3, h4⟩
      refine .nlp ?_
      exact ih (bif i_3 == 0 then e_9 else out_2) (w64 (i_3 + 1)) (bif i_3 == 1 then e_9 else out_6) _ ⟨h1, h2, h3, h4⟩ h
    · refine .exit ?_
      refine .esq ?_
      refine .elp ?_
      refine .ebk ?_
      refine .nsq ?_
      refine .seq ?_
      refine run_reg ?_
      refine e_end ?_
      refine g_v1 (t := 3) (u := (.ref (.bx 3) 0 [] (.agg [(.int .i64 out_2), (.int .i64 out_6)]))) (.agg [(.int .i64 out_2), (.int .i64 out_6)]) h3 rfl rfl ?_
      refine g_store (.agg [(.int .i64 out_2), (.int .i64 out_6)]) (rd_of h2 rfl) (rd_of rfl rfl) (by refine ⟨by decide, by decide, rfl, rfl, rfl, ?_⟩; first | rfl | simp [V.toks, V.tokss, Enc.toks_enc]) ?_
      refine g_end ?_
      refine e_end ?_
      refine renew [(2, (.ref (.bx 2) 0 [] (.agg [(.int .i64 out_2), (.int .i64 out_6)])))] (keep_mut h2 rfl) ?_
      rintro s h2
      refine .nsq ?_
      refine .ret ?_
      have hr := Option.some.inj h
      subst hr
      exact rrA (res_cell h2 (by kernel_rfl)) rfl
def w_toIntA2 (F : Nat) (a_1 : (Int × Int)) : Option (Int × Int) :=
  w_toIntA2_l1 F a_1 F 0 0 0
theorem t99 (H : H99 D σ F) (a_1 : (Int × Int)) (s : Nat → V) (hs : Facts [(0, (.agg [(.int .i64 a_1.1), (.int .i64 a_1.2)]))] s) (h : w_toIntA2 F a_1 = some r) : Run D σ (R99 r) (.run A99 []) s := by
  unfold w_toIntA2 at h
  have h0 := hs
  refine .seq ?_
  refine run_reg ?_
  refine e_clr ?_
  refine e_end ?_
  refine g_box (.agg [(.int .i64 a_1.1), (.int .i64 a_1.2)]) (rd_of (keep_clear (s := s) (pk := [1, 2]) h0 rfl (map_agg (maps_cons rfl (maps_cons rfl maps_nil)))) rfl) (gone_clear (s := s) (pk := [1, 2]) (t := 1) rfl) rfl ?_
  refine g_alloc (gone_clear (s := s) (pk := [1, 2]) (t := 2) rfl) ?_
  refine g_end ?_
  refine e_end ?_
  refine renew [(1, (.ref (.bx 1) 0 [] (.agg [(.int .i64 a_1.1), (.int .i64 a_1.2)]))), (2, (.ref (.bx 2) 0 [] (.agg [(.int .i64 0), (.int .i64 0)])))] ⟨rfl, rfl⟩ ?_
  rintro s ⟨h1, h2⟩
  refine .nsq ?_
  refine .seq ?_
  refine run_reg ?_
  refine e_clr ?_
  refine e_end ?_
  refine g_alloc (gone_clear (s := s) (pk := [3]) (t := 3) rfl) ?_
  refine g_end ?_
  refine e_end ?_
  refine renew [(1, (.ref (.bx 1) 0 [] (.agg [(.int .i64 a_1.1), (.int .i64 a_1.2)]))), (2, (.ref (.bx 2) 0 [] (.agg [(.int .i64 0), (.int .i64 0)]))), (3, (.ref (.bx 3) 0 [] (.agg [(.int .i64 0), (.int .i64 0)])))] ⟨(keep_clear (s := s) (pk := [3]) h1 rfl (map_bx rfl (map_agg (maps_cons rfl (maps_cons rfl maps_nil))))), (keep_clear (s := s) (pk := [3]) h2 rfl (map_bx rfl (map_agg (maps_cons rfl (maps_cons rfl maps_nil))))), rfl⟩ ?_
  rintro s ⟨h1, h2, h3⟩
  refine .nsq ?_
  refine .seq ?_
  refine .seq ?_
  refine run_reg ?_
  refine e_end ?_
  refine g_v0 (.int .i64 0) rfl rfl ?_
  refine g_end ?_
  refine e_end ?_
  refine renew [(1, (.ref (.bx 1) 0 [] (.agg [(.int .i64 a_1.1), (.int .i64 a_1.2)]))), (2, (.ref (.bx 2) 0 [] (.agg [(.int .i64 0), (.int .i64 0)]))), (3, (.ref (.bx 3) 0 [] (.agg [(.int .i64 0), (.int .i64 0)]))), (4, (.int .i64 0))] ⟨h1, h2, h3, rfl⟩ ?_
  rintro s ⟨h1, h2, h3, h4⟩
  refine .nsq ?_
  refine .block ?_
  refine .loop ?_
  exact t_f99_l1 H a_1 F 0 0 0 _ ⟨h1, h2, h3, h4⟩ h
end
def e99 (F : Nat) : Ent := ⟨99, da (fun (x : ((Int × Int) × Unit)) => w_toIntA2 F x.1) (fun (r : (Int × Int)) => (Enc.enc (r : (Int × Int)))), 0, false, selF []⟩
theorem p99 {F : Nat} {x0 : (Int × Int)} {r : (Int × Int)} (h : w_toIntA2 F x0 = some r) : (e99 F).den [Enc.enc x0] = some (Enc.enc (r : (Int × Int))) := da_put (f := fun (x : ((Int × Int) × Unit)) => w_toIntA2 F x.1) (t := fun (r : (Int × Int)) => (Enc.enc (r : (Int × Int)))) (x0, ()) h
theorem o99 {D : Den} {σ : Sig} {F : Nat} (hF : Fits2 Try.prog D σ) (H : H99 D σ F) : (e99 F).Ok Try.prog := by
  refine ok_of (f := 99) (show unk 99 = 99 from rfl) (fun args r h => ?_) ⟨Try.f99, Try.func99, rfl, rfl⟩
  obtain ⟨⟨x0, _⟩, y, rfl, hy, rfl⟩ := da_open h
  exact contract_run hF (by kernel_rfl) Try.func99 rfl c99 (show 1 ≤ Try.f99.ntmps by decide) (t99 H x0 _ rfl hy)
/- loop.example/g01109/laws.toIntA2S -/
def A50_2 : AC := (AC.cond (O.t 11) AC.skip (AC.exit 0))
def A50_4 : AC := (AC.reg [] [(I.mk (some 12) none false (X.v (A.mov (O.t 4)))), (I.mk (some 13) none false (X.v (A.bin BinOp.add (O.t 12) (O.k (V.int IntKind.i64 (Int.ofNat 1)))))), (I.mk (some 4) none false (X.v (A.mov (O.t 13))))] [])
def A50_3 : AC := (AC.seq (AC.block 1 (AC.reg [] [(I.mk (some 14) none false (X.v (A.mov (O.t 3)))), (I.mk (some 15) none false (X.v (A.mov (O.t 4)))), (I.mk (some 16) none false (X.v (A.mov (O.t 0)))), (I.mk (some 17) none false (X.v (A.mov (O.t 4)))), (I.mk (some 18) none false (X.v (A.idx (O.t 16) (O.t 17) 2))), (I.mk (some 19) none false (X.v (A.load (Sh.ag [Sh.s, Sh.s]) (O.t 18)))), (I.mk (some 20) none false (X.call (O.k (V.fn 99 [] [])) [(O.t 19)])), (I.mk (some 21) none false (X.v (A.idx (O.t 14) (O.t 15) 2))), (I.mk none none false (X.store (Sh.ag [Sh.s, Sh.s]) (O.t 21) (O.t 20)))] [])) A50_4)
def A50_1 : AC := (AC.seq (AC.seq (AC.reg [] [(I.mk (some 8) none false (X.v (A.mov (O.t 4)))), (I.mk (some 9) none false (X.v (A.mov (O.t 0)))), (I.mk (some 10) none false (X.v (A.len (O.t 9)))), (I.mk (some 11) none false (X.v (A.bin BinOp.lss (O.t 8) (O.t 10))))] []) A50_2) A50_3)
def A50_5 : AC := (AC.seq (AC.reg [] [(I.mk (some 22) none false (X.v (A.mov (O.t 3)))), (I.mk (some 2) none false (X.v (A.mov (O.t 22))))] [.home 3 2]) AC.ret)
def A50_8 : AC := (AC.block 0 (AC.loop A50_1))
def A50_7 : AC := (AC.seq (AC.seq (AC.reg [] [(I.mk (some 4) none false (X.v (A.mov (O.k (V.int IntKind.i64 (Int.ofNat 0))))))] []) A50_8) A50_5)
def A50_6 : AC := (AC.seq (AC.reg [.clr [7]] [(I.mk (some 5) none false (X.v (A.mov (O.t 0)))), (I.mk (some 6) none false (X.v (A.len (O.t 5)))), (I.mk (some 7) none false (X.mk (O.t 6) (V.agg [(V.int IntKind.i64 (Int.ofNat 0)), (V.int IntKind.i64 (Int.ofNat 0))]))), (I.mk (some 3) none false (X.v (A.mov (O.t 7))))] [.home 7 3]) A50_7)
def A50 : AC := (AC.seq (AC.reg [] [(I.mk (some 2) none false (X.v (A.mov (O.k (V.sl Tok.nl (Sh.ag [Sh.s, Sh.s]) 0 [])))))] []) A50_6)
def an50 : List An := [{ id := 1, pre := [.clr [7]], ep := [.home 7 3], lin := [], sp := [] }, { id := 6, pre := [], ep := [.home 3 2], lin := [], sp := [] }]
theorem c50 : cC Try.prog Try.f50.ntmps an50 (Try.f50.body.getD .skip) = some A50 := by kernel_rfl
structure H50 (D : Den) (σ : Sig) (F : Nat) : Prop where
  c99 : ∀ (x0 : (Int × Int)) r, w_toIntA2 F x0 = some r → D 99 [Enc.enc x0] = some (Enc.enc (r : (Int × Int)))
  g99 : σ 99 = some (0, false)
abbrev R50 (r : (List (Int × Int))) : (Nat → V) → Prop := RR Try.prog [.tmp 2] 0 false (Enc.enc (r : (List (Int × Int))))
section
variable {D : Den} {σ : Sig} {F : Nat} {r : (List (Int × Int))}
def w_toIntA2S_l1 (F : Nat) (a_1 : (List (Int × Int)))  : Nat → (List (Int × Int)) → Int → Option (List (Int × Int))
  | 0, _, _ => none
  | k + 1, out_6, i_7 =>
    bif decide (i_7 < (a_1.length : Int)) then
      (idx a_1 i_7).bind fun e_11 =>
      (w_toIntA2 F e_11).bind fun r_12 =>
      (idx out_6 i_7).bind fun e_13 =>
      (w_toIntA2S_l1 F a_1 k) (out_6.set i_7.toNat r_12) (w64 (i_7 + 1))
    else
      some out_6
theorem t_f50_l1 (H : H50 D σ F) (a_1 : (List (Int × Int)))  : ∀ (k : Nat) (out_6 : (List (Int × Int))) (i_7 : Int) (s : Nat → V), Facts [(0, (Enc.enc (a_1 : List (Int × Int)))), (2, (.sl .nl (Enc.shp (Int × Int)) 0 [])), (3, (encO (.at 3 []) (.of (out_6 : List (Int × Int))))), (4, (.int .i64 i_7))] s → w_toIntA2S_l1 F a_1 k out_6 i_7 = some r → Run D σ (R50 r) (.run A50_1 [.lp A50_1, .bk 0, .sq A50_5]) s := by
  intro k
  induction k with
  | zero => intro out_6 i_7 s _ h; exact nomatch (h : (none : Option _) = some r)
  | succ k ih =>
    intro out_6 i_7 s hs h
    rw [w_toIntA2S_l1] at h
    obtain ⟨h0, h2, h3, h4⟩ := hs
    refine .seq ?_
    refine .seq ?_
    refine run_reg ?_
    refine e_end ?_
    refine g_v1 (t := 4) (u := (.int .i64 i_7)) (.int .i64 i_7) h4 rfl rfl ?_
    refine g_v1 (t := 0) (u := (Enc.enc (a_1 : List (Int × Int)))) (Enc.enc (a_1 : List (Int × Int))) h0 rfl rfl ?_
    refine g_v (.int .i64 (a_1.length : Int)) (ev_len (xs := a_1) rfl) ?_
    refine g_v2 (t1 := 8) (t2 := 10) (u1 := (.int .i64 i_7)) (u2 := (.int .i64 (a_1.length : Int))) (.bool (decide (i_7 < (a_1.length : Int)))) rfl rfl rfl rfl ?_
    refine g_end ?_
    refine e_end ?_
    refine renew [(0, (Enc.enc (a_1 : List (Int × Int)))), (2, (.sl .nl (Enc.shp (Int × Int)) 0 [])), (3, (encO (.at 3 []) (.of (out_6 : List (Int × Int))))), (4, (.int .i64 i_7)), (11, (.bool (decide (i_7 < (a_1.length : Int)))))] ⟨h0, h2, h3, h4, rfl⟩ ?_
    rintro s ⟨h0, h2, h3, h4, h11⟩
    refine .nsq ?_
    refine run_cond (t := decide (i_7 < (a_1.length : Int))) h11 h (fun h => ?_) (fun h => ?_)
    · refine .skip ?_
      refine .nsq ?_
      refine .seq ?_
      refine .block ?_
      refine run_reg ?_
      refine e_end ?_
      refine g_v1 (t := 3) (u := (encO (.at 3 []) (.of (out_6 : List (Int × Int))))) (encO (.at 3 []) (.of (out_6 : List (Int × Int)))) h3 rfl rfl ?_
      refine g_v1 (t := 4) (u := (.int .i64 i_7)) (.int .i64 i_7) h4 rfl rfl ?_
      refine g_v1 (t := 0) (u := (Enc.enc (a_1 : List (Int × Int)))) (Enc.enc (a_1 : List (Int × Int))) h0 rfl rfl ?_
      refine g_v1 (t := 4) (u := (.int .i64 i_7)) (.int .i64 i_7) h4 rfl rfl ?_
      obtain ⟨e_11, E_e_11, h⟩ := bind_some h
      refine g_v (.ref .sh 0 [] (.agg [(.int .i64 e_11.1), (.int .i64 e_11.2)])) (ev_idx (t := .sh) (lo := 0) (xs := a_1) rfl rfl E_e_11 rfl rfl) ?_
      refine g_v1 (t := 18) (u := (.ref .sh 0 [] (.agg [(.int .i64 e_11.1), (.int .i64 e_11.2)]))) (.agg [(.int .i64 e_11.1), (.int .i64 e_11.2)]) rfl rfl rfl ?_
      obtain ⟨r_12, E_r_12, h⟩ := bind_some h
      refine g_call (m := 0) (al := false) (r := (Enc.enc (r_12 : (Int × Int)))) [Enc.enc (e_11 : (Int × Int))] (ta_cons (v := (.agg [(.int .i64 e_11.1), (.int .i64 e_11.2)])) rfl rfl (Enc.erase_enc (e_11 : (Int × Int))) ta_nil) (H.c99 _ _ E_r_12) H.g99 rfl rfl rfl rfl ?_
      obtain ⟨e_13, E_e_13, h⟩ := bind_some h
      refine g_v (.ref (.at 3 []) i_7.toNat [] (.agg [(.int .i64 e_13.1), (.int .i64 e_13.2)])) (ev_idxO (o := (.of out_6)) rfl rfl E_e_13 rfl) ?_
      refine g_store (.agg [(.int .i64 r_12.1), (.int .i64 r_12.2)]) (rd_of rfl rfl) (rd_of rfl rfl) (by refine ⟨by decide, by decide, rfl, rfl, rfl, ?_⟩; first | rfl | simp [V.toks, V.tokss, Enc.toks_enc]) ?_
      refine g_end ?_
      refine e_end ?_
      refine renew [(0, (Enc.enc (a_1 : List (Int × Int)))), (2, (.sl .nl (Enc.shp (Int × Int)) 0 [])), (3, (encO (.at 3 []) (.of (out_6.set i_7.toNat r_12 : List (Int × Int))))), (4, (.int .i64 i_7))] ⟨(keep_mut h0 (Enc.mut_enc _ _ _ _ (a_1 : List (Int × Int)))), (keep_mut h2 rfl), (keep_mut h3 mut_own), (keep_mut h4 rfl)⟩ ?_
      rintro s ⟨h0, h2, h3, h4⟩
      refine .nbk ?_
      refine .nsq ?_
      refine run_reg ?_
      refine e_end ?_
      refine g_v1 (t := 4) (u := (.int .i64 i_7)) (.int .i64 i_7) h4 rfl rfl ?_
      refine g_v1 (t := 12) (u := (.int .i64 i_7)) (.int .i64 (w64 (i_7 + 1))) rfl rfl rfl ?_
      refine g_v1 (t := 13) (u := (.int .i64 (w64 (i_7 + 1)))) (.int .i64 (w64 (i_7 + 1))) rfl rfl rfl ?_
      refine g_end ?_
      refine e_end ?_
      refine renew [(0, (Enc.enc (a_1 : List (Int × Int)))), (2, (.sl .nl (Enc.shp (Int × Int)) 0 [])), (3, (encO (.at 3 []) (.of (out_6.set i_7.toNat r_12 : List (Int × Int))))), (4, (.int .i64 (w64 (i_7 + 1))))] ⟨h0, h2, h3, rfl⟩ ?_
      rintro s ⟨h0, h2, h3, h4⟩
      refine .nlp ?_
      exact ih (out_6.set i_7.toNat r_12) (w64 (i_7 + 1)) _ ⟨h0, h2, h3, h4⟩ h
    · refine .exit ?_
      refine .esq ?_
      refine .elp ?_
      refine .ebk ?_
      refine .nsq ?_
      refine .seq ?_
      refine run_reg ?_
      refine e_end ?_
      refine g_v1 (t := 3) (u := (encO (.at 3 []) (.of (out_6 : List (Int × Int))))) (encO (.at 3 []) (.of (out_6 : List (Int × Int)))) h3 rfl rfl ?_
      refine g_v1 (t := 22) (u := (encO (.at 3 []) (.of (out_6 : List (Int × Int))))) (encO (.at 3 []) (.of (out_6 : List (Int × Int)))) rfl rfl rfl ?_
      refine g_end ?_
      refine e_home (r := 3) (x := 2) (v := (encO (.at 3 []) (.of (out_6 : List (Int × Int))))) (by exact rfl) rfl (fun s_3 hg_3 => ?_)
      refine e_end ?_
      refine renew [(2, (encO (.at 2 []) (.of (out_6 : List (Int × Int)))))] (hg_3 2 (encO (.at 3 []) (.of (out_6 : List (Int × Int)))) (encO (.at 2 []) (.of (out_6 : List (Int × Int)))) rfl (map_encO (r := 3) (p := []) rfl rfl)) ?_
      rintro s h2
      refine .nsq ?_
      refine .ret ?_
      have hr := Option.some.inj h
      subst hr
      exact rrA (res_tmp h2) (fin_retF (fin_own (o := .of out_6)) (mine_own rfl))
def w_toIntA2S (F : Nat) (a_1 : (List (Int × Int))) : Option (List (Int × Int)) :=
  (mkN (a_1.length : Int) (0, 0)).bind fun mk_2 =>
  w_toIntA2S_l1 F a_1 F mk_2 0
theorem t50 (H : H50 D σ F) (a_1 : (List (Int × Int))) (s : Nat → V) (hs : Facts [(0, (Enc.enc (a_1 : List (Int × Int))))] s) (h : w_toIntA2S F a_1 = some r) : Run D σ (R50 r) (.run A50 []) s := by
  unfold w_toIntA2S at h
  have h0 := hs
  refine .seq ?_
  refine run_reg ?_
  refine e_end ?_
  refine g_v0 (.sl .nl (Enc.shp (Int × Int)) 0 []) rfl rfl ?_
  refine g_end ?_
  refine e_end ?_
  refine renew [(0, (Enc.enc (a_1 : List (Int × Int)))), (2, (.sl .nl (Enc.shp (Int × Int)) 0 []))] ⟨h0, rfl⟩ ?_
  rintro s ⟨h0, h2⟩
  refine .nsq ?_
  refine .seq ?_
  refine run_reg ?_
  refine e_clr ?_
  refine e_end ?_
  refine g_v1 (t := 0) (u := (Enc.enc (a_1 : List (Int × Int)))) (Enc.enc (a_1 : List (Int × Int))) (keep_clear (s := s) (pk := [7]) h0 rfl (Enc.map_enc _ (a_1 : List (Int × Int)))) rfl rfl ?_
  refine g_v (.int .i64 (a_1.length : Int)) (ev_len (xs := a_1) rfl) ?_
  obtain ⟨mk_2, E_mk_2, h⟩ := bind_some h
  refine g_mk ((0, 0) : (Int × Int)) rfl rfl (gone_clear (s := s) (pk := [7]) (t := 7) rfl) E_mk_2 ?_
  refine g_v1 (t := 7) (u := (encO (.at 7 []) (.of (mk_2 : List (Int × Int))))) (encO (.at 7 []) (.of (mk_2 : List (Int × Int)))) rfl rfl rfl ?_
  refine g_end ?_
  refine e_home (r := 7) (x := 3) (v := (encO (.at 7 []) (.of (mk_2 : List (Int × Int))))) (by exact rfl) rfl (fun s_2 hg_2 => ?_)
  refine e_end ?_
  refine renew [(0, (Enc.enc (a_1 : List (Int × Int)))), (2, (.sl .nl (Enc.shp (Int × Int)) 0 [])), (3, (encO (.at 3 []) (.of (mk_2 : List (Int × Int)))))] ⟨(hg_2 0 (Enc.enc (a_1 : List (Int × Int))) (Enc.enc (a_1 : List (Int × Int))) (keep_clear (s := s) (pk := [7]) h0 rfl (Enc.map_enc _ (a_1 : List (Int × Int)))) (Enc.map_enc _ (a_1 : List (Int × Int)))), (hg_2 2 (.sl .nl (Enc.shp (Int × Int)) 0 []) (.sl .nl (Enc.shp (Int × Int)) 0 []) (keep_clear (s := s) (pk := [7]) h2 rfl rfl) rfl), (hg_2 3 (encO (.at 7 []) (.of (mk_2 : List (Int × Int)))) (encO (.at 3 []) (.of (mk_2 : List (Int × Int)))) rfl (map_encO (r := 7) (p := []) rfl rfl))⟩ ?_
  rintro s ⟨h0, h2, h3⟩
  refine .nsq ?_
  refine .seq ?_
  refine .seq ?_
  refine run_reg ?_
  refine e_end ?_
  refine g_v0 (.int .i64 0) rfl rfl ?_
  refine g_end ?_
  refine e_end ?_
  refine renew [(0, (Enc.enc (a_1 : List (Int × Int)))), (2, (.sl .nl (Enc.shp (Int × Int)) 0 [])), (3, (encO (.at 3 []) (.of (mk_2 : List (Int × Int))))), (4, (.int .i64 0))] ⟨h0, h2, h3, rfl⟩ ?_
  rintro s ⟨h0, h2, h3, h4⟩
  refine .nsq ?_
  refine .block ?_
  refine .loop ?_
  exact t_f50_l1 H a_1 F mk_2 0 _ ⟨h0, h2, h3, h4⟩ h
end
def e50 (F : Nat) : Ent := ⟨50, da (fun (x : ((List (Int × Int)) × Unit)) => w_toIntA2S F x.1) (fun (r : (List (Int × Int))) => (Enc.enc (r : (List (Int × Int))))), 0, false, selF []⟩
theorem p50 {F : Nat} {x0 : (List (Int × Int))} {r : (List (Int × Int))} (h : w_toIntA2S F x0 = some r) : (e50 F).den [Enc.enc x0] = some (Enc.enc (r : (List (Int × Int)))) := da_put (f := fun (x : ((List (Int × Int)) × Unit)) => w_toIntA2S F x.1) (t := fun (r : (List (Int × Int))) => (Enc.enc (r : (List (Int × Int))))) (x0, ()) h
theorem o50 {D : Den} {σ : Sig} {F : Nat} (hF : Fits2 Try.prog D σ) (H : H50 D σ F) : (e50 F).Ok Try.prog := by
  refine ok_of (f := 50) (show unk 50 = 50 from rfl) (fun args r h => ?_) ⟨Try.f50, Try.func50, rfl, rfl⟩
  obtain ⟨⟨x0, _⟩, y, rfl, hy, rfl⟩ := da_open h
  exact contract_run hF (by kernel_rfl) Try.func50 rfl c50 (show 1 ≤ Try.f50.ntmps by decide) (t50 H x0 _ rfl hy)
/- loop.example/g01109/laws.toGraph -/
def A17_4 : AC := (AC.seq (AC.reg [] [(I.mk (some 11) none false (X.v (A.load (Sh.ag [Sh.s, Sh.p]) (O.t 3)))), (I.mk none none false (X.store (Sh.ag [Sh.s, Sh.p]) (O.t 2) (O.t 11)))] []) AC.ret)
def A17_3 : AC := (AC.seq (AC.reg [] [(I.mk (some 7) none false (X.v (A.fld (O.t 1) 1 1))), (I.mk (some 8) none false (X.v (A.load Sh.p (O.t 7)))), (I.mk (some 9) none false (X.call (O.k (V.fn 50 [] [])) [(O.t 8)])), (I.mk (some 10) none false (X.v (A.fld (O.t 3) 1 1))), (I.mk none none false (X.store Sh.p (O.t 10) (O.t 9)))] []) A17_4)
def A17_2 : AC := (AC.seq (AC.reg [] [(I.mk (some 4) none false (X.v (A.fld (O.t 1) 0 0))), (I.mk (some 5) none false (X.v (A.load Sh.s (O.t 4)))), (I.mk (some 6) none false (X.v (A.fld (O.t 3) 0 0))), (I.mk none none false (X.store Sh.s (O.t 6) (O.t 5)))] []) A17_3)
def A17_1 : AC := (AC.seq (AC.reg [.clr [3]] [(I.mk (some 3) none false (X.alloc (V.agg [(V.int IntKind.i64 (Int.ofNat 0)), (V.sl Tok.nl (Sh.ag [Sh.s, Sh.s]) 0 [])])))] []) A17_2)
def A17 : AC := (AC.seq (AC.reg [.clr [1, 2]] [(I.mk (some 1) none false (X.box (O.t 0))), (I.mk (some 2) none false (X.alloc (V.agg [(V.int IntKind.i64 (Int.ofNat 0)), (V.sl Tok.nl (Sh.ag [Sh.s, Sh.s]) 0 [])])))] []) A17_1)
def an17 : List An := [{ id := 0, pre := [.clr [1, 2]], ep := [], lin := [], sp := [] }, { id := 1, pre := [.clr [3]], ep := [], lin := [], sp := [] }]
theorem c17 : cC Try.prog Try.f17.ntmps an17 (Try.f17.body.getD .skip) = some A17 := by kernel_rfl
structure H17 (D : Den) (σ : Sig) (F : Nat) : Prop where
  c50 : ∀ (x0 : (List (Int × Int))) r, w_toIntA2S F x0 = some r → D 50 [Enc.enc x0] = some (Enc.enc (r : (List (Int × Int))))
  g50 : σ 50 = some (0, false)
abbrev R17 (r : (Int × (List (Int × Int)))) : (Nat → V) → Prop := RR Try.prog [.cell 2 29] 0 true (Enc.enc (r : (Int × (List (Int × Int)))))
section
variable {D : Den} {σ : Sig} {F : Nat} {r : (Int × (List (Int × Int)))}
def w_toGraph (F : Nat) (a_1 : (Int × (List (Int × Int)))) : Option (Int × (List (Int × Int))) :=
  (w_toIntA2S F a_1.2).bind fun r_2 =>
  some (a_1.1, r_2)
theorem t17 (H : H17 D σ F) (a_1 : (Int × (List (Int × Int)))) (s : Nat → V) (hs : Facts [(0, (.agg [(.int .i64 a_1.1), (Enc.enc (a_1.2 : List (Int × Int)))]))] s) (h : w_toGraph F a_1 = some r) : Run D σ (R17 r) (.run A17 []) s := by
  unfold w_toGraph at h
  have h0 := hs
  refine .seq ?_
  refine run_reg ?_
  refine e_clr ?_
  refine e_end ?_
  refine g_box (.agg [(.int .i64 a_1.1), (Enc.enc (a_1.2 : List (Int × Int)))]) (rd_of (keep_clear (s := s) (pk := [1, 2]) h0 rfl (map_agg (maps_cons rfl (maps_cons (Enc.map_enc _ (a_1.2 : List (Int × Int))) maps_nil)))) rfl) (gone_clear (s := s) (pk := [1, 2]) (t := 1) rfl) rfl ?_
  refine g_alloc (gone_clear (s := s) (pk := [1, 2]) (t := 2) rfl) ?_
  refine g_end ?_
  refine e_end ?_
  refine renew [(1, (.ref (.bx 1) 0 [] (.agg [(.int .i64 a_1.1), (Enc.enc (a_1.2 : List (Int × Int)))]))), (2, (.ref (.bx 2) 0 [] (.agg [(.int .i64 0), (.sl .nl (Enc.shp (Int × Int)) 0 [])])))] ⟨rfl, rfl⟩ ?_
  rintro s ⟨h1, h2⟩
  refine .nsq ?_
  refine .seq ?_
  refine run_reg ?_
  refine e_clr ?_
  refine e_end ?_
  refine g_alloc (gone_clear (s := s) (pk := [3]) (t := 3) rfl) ?_
  refine g_end ?_
  refine e_end ?_
  refine renew [(1, (.ref (.bx 1) 0 [] (.agg [(.int .i64 a_1.1), (Enc.enc (a_1.2 : List (Int × Int)))]))), (2, (.ref (.bx 2) 0 [] (.agg [(.int .i64 0), (.sl .nl (Enc.shp (Int × Int)) 0 [])]))), (3, (.ref (.bx 3) 0 [] (.agg [(.int .i64 0), (.sl .nl (Enc.shp (Int × Int)) 0 [])])))] ⟨(keep_clear (s := s) (pk := [3]) h1 rfl (map_bx rfl (map_agg (maps_cons rfl (maps_cons (Enc.map_enc _ (a_1.2 : List (Int × Int))) maps_nil))))), (keep_clear (s := s) (pk := [3]) h2 rfl (map_bx rfl (map_agg (maps_cons rfl (maps_cons rfl maps_nil))))), rfl⟩ ?_
  rintro s ⟨h1, h2, h3⟩
  refine .nsq ?_
  refine .seq ?_
  refine run_reg ?_
  refine e_end ?_
  refine g_v1 (t := 1) (u := (.ref (.bx 1) 0 [] (.agg [(.int .i64 a_1.1), (Enc.enc (a_1.2 : List (Int × Int)))]))) (.ref (.bx 1) 0 [0] (.int .i64 a_1.1)) h1 rfl rfl ?_
  refine g_v1 (t := 4) (u := (.ref (.bx 1) 0 [0] (.int .i64 a_1.1))) (.int .i64 a_1.1) rfl rfl rfl ?_
  refine g_v1 (t := 3) (u := (.ref (.bx 3) 0 [] (.agg [(.int .i64 0), (.sl .nl (Enc.shp (Int × Int)) 0 [])]))) (.ref (.bx 3) 0 [0] (.int .i64 0)) h3 rfl rfl ?_
  refine g_store (.int .i64 a_1.1) (rd_of rfl rfl) (rd_of rfl rfl) (by refine ⟨by decide, by decide, rfl, rfl, rfl, ?_⟩; first | rfl | simp [V.toks, V.tokss, Enc.toks_enc]) ?_
  refine g_end ?_
  refine e_end ?_
  refine renew [(1, (.ref (.bx 1) 0 [] (.agg [(.int .i64 a_1.1), (Enc.enc (a_1.2 : List (Int × Int)))]))), (2, (.ref (.bx 2) 0 [] (.agg [(.int .i64 0), (.sl .nl (Enc.shp (Int × Int)) 0 [])]))), (3, (.ref (.bx 3) 0 [] (.agg [(.int .i64 a_1.1), (.sl .nl (Enc.shp (Int × Int)) 0 [])])))] ⟨(keep_mut h1 (mut_ref_ne rfl rfl (mut_agg (muts_cons rfl (muts_cons (Enc.mut_enc _ _ _ _ (a_1.2 : List (Int × Int))) rfl))))), (keep_mut h2 (mut_ref_ne rfl rfl (mut_agg (muts_cons rfl (muts_cons rfl rfl))))), (keep_mut h3 rfl)⟩ ?_
  rintro s ⟨h1, h2, h3⟩
  refine .nsq ?_
  refine .seq ?_
  refine run_reg ?_
  refine e_end ?_
  refine g_v1 (t := 1) (u := (.ref (.bx 1) 0 [] (.agg [(.int .i64 a_1.1), (Enc.enc (a_1.2 : List (Int × Int)))]))) (.ref (.bx 1) 0 [1] (Enc.enc (a_1.2 : List (Int × Int)))) h1 rfl rfl ?_
  refine g_v1 (t := 7) (u := (.ref (.bx 1) 0 [1] (Enc.enc (a_1.2 : List (Int × Int))))) (Enc.enc (a_1.2 : List (Int × Int))) rfl rfl rfl ?_
  obtain ⟨r_2, E_r_2, h⟩ := bind_some h
  refine g_call (m := 0) (al := false) (r := (Enc.enc (r_2 : (List (Int × Int))))) [Enc.enc (a_1.2 : (List (Int × Int)))] (ta_cons (v := (Enc.enc (a_1.2 : List (Int × Int)))) rfl rfl (Enc.erase_enc (a_1.2 : (List (Int × Int)))) ta_nil) (H.c50 _ _ E_r_2) H.g50 rfl rfl rfl rfl ?_
  refine g_v1 (t := 3) (u := (.ref (.bx 3) 0 [] (.agg [(.int .i64 a_1.1), (.sl .nl (Enc.shp (Int × Int)) 0 [])]))) (.ref (.bx 3) 0 [1] (.sl .nl (Enc.shp (Int × Int)) 0 [])) h3 rfl rfl ?_
  refine g_store (Enc.enc (r_2 : List (Int × Int))) (rd_of rfl rfl) (rd_of rfl rfl) (by refine ⟨by decide, by decide, rfl, rfl, rfl, ?_⟩; first | rfl | simp [V.toks, V.tokss, Enc.toks_enc]) ?_
  refine g_end ?_
  refine e_end ?_
  refine renew [(2, (.ref (.bx 2) 0 [] (.agg [(.int .i64 0), (.sl .nl (Enc.shp (Int × Int)) 0 [])]))), (3, (.ref (.bx 3) 0 [] (.agg [(.int .i64 a_1.1), (Enc.enc (r_2 : List (Int × Int)))])))] ⟨(keep_mut h2 (mut_ref_ne rfl rfl (mut_agg (muts_cons rfl (muts_cons rfl rfl))))), (keep_mut h3 rfl)⟩ ?_
  rintro s ⟨h2, h3⟩
  refine .nsq ?_
  refine .seq ?_
  refine run_reg ?_
  refine e_end ?_
  refine g_v1 (t := 3) (u := (.ref (.bx 3) 0 [] (.agg [(.int .i64 a_1.1), (Enc.enc (r_2 : List (Int × Int)))]))) (.agg [(.int .i64 a_1.1), (Enc.enc (r_2 : List (Int × Int)))]) h3 rfl rfl ?_
  refine g_store (.agg [(.int .i64 a_1.1), (Enc.enc (r_2 : List (Int × Int)))]) (rd_of h2 rfl) (rd_of rfl rfl) (by refine ⟨by decide, by decide, rfl, rfl, rfl, ?_⟩; first | rfl | simp [V.toks, V.tokss, Enc.toks_enc]) ?_
  refine g_end ?_
  refine e_end ?_
  refine renew [(2, (.ref (.bx 2) 0 [] (.agg [(.int .i64 a_1.1), (Enc.enc (r_2 : List (Int × Int)))])))] (keep_mut h2 rfl) ?_
  rintro s h2
  refine .nsq ?_
  refine .ret ?_
  have hr := Option.some.inj h
  subst hr
  exact rrA (res_cell h2 (by kernel_rfl)) (fin_ret1 (fin_enc (x := ((a_1.1, r_2) : (Int × (List (Int × Int)))))))
end
def e17 (F : Nat) : Ent := ⟨17, da (fun (x : ((Int × (List (Int × Int))) × Unit)) => w_toGraph F x.1) (fun (r : (Int × (List (Int × Int)))) => (Enc.enc (r : (Int × (List (Int × Int)))))), 0, true, selF []⟩
theorem p17 {F : Nat} {x0 : (Int × (List (Int × Int)))} {r : (Int × (List (Int × Int)))} (h : w_toGraph F x0 = some r) : (e17 F).den [Enc.enc x0] = some (Enc.enc (r : (Int × (List (Int × Int))))) := da_put (f := fun (x : ((Int × (List (Int × Int))) × Unit)) => w_toGraph F x.1) (t := fun (r : (Int × (List (Int × Int)))) => (Enc.enc (r : (Int × (List (Int × Int)))))) (x0, ()) h
theorem o17 {D : Den} {σ : Sig} {F : Nat} (hF : Fits2 Try.prog D σ) (H : H17 D σ F) : (e17 F).Ok Try.prog := by
  refine ok_of (f := 17) (show unk 17 = 17 from rfl) (fun args r h => ?_) ⟨Try.f17, Try.func17, rfl, rfl⟩
  obtain ⟨⟨x0, _⟩, y, rfl, hy, rfl⟩ := da_open h
  exact contract_run hF (by kernel_rfl) Try.func17 rfl c17 (show 1 ≤ Try.f17.ntmps by decide) (t17 H x0 _ rfl hy)
/- loop.example/g01109/spec.l1In -/
def A95_1 : AC := (AC.seq (AC.reg [] [(I.mk (some 7) none false (X.v (A.mov (O.t 0)))), (I.mk (some 8) none false (X.v (A.mov (O.t 1)))), (I.mk (some 9) none false (X.v (A.bin BinOp.geq (O.t 7) (O.t 8)))), (I.mk (some 10) none false (X.v (A.mov (O.t 9)))), (I.mk (some 11) (some (10, true)) false (X.v (A.mov (O.t 0)))), (I.mk (some 12) (some (10, true)) false (X.v (A.mov (O.t 2)))), (I.mk (some 13) (some (10, true)) false (X.v (A.bin BinOp.leq (O.t 11) (O.t 12)))), (I.mk (some 14) none false (X.v (A.pick (O.t 10) (O.t 13) (O.k (V.bool false))))), (I.mk (some 6) none false (X.v (A.mov (O.t 14))))] []) AC.ret)
def A95 : AC := (AC.seq (AC.reg [] [(I.mk (some 6) none false (X.v (A.mov (O.k (V.bool false)))))] []) A95_1)
def an95 : List An := []
theorem c95 : cC Try.prog Try.f95.ntmps an95 (Try.f95.body.getD .skip) = some A95 := by kernel_rfl
structure H95 (D : Den) (σ : Sig) (F : Nat) : Prop where
  mk ::
abbrev R95 (r : Bool) : (Nat → V) → Prop := RR Try.prog [.tmp 6] 0 false (Enc.enc (r : Bool))
section
variable {D : Den} {σ : Sig} {F : Nat} {r : Bool}
def s_l1In (F : Nat) (x_1 : Int) (a_2 : Int) (b_3 : Int) : Option Bool :=
  bif decide (x_1 ≥ a_2) then
    some (decide (x_1 ≤ b_3))
  else
    some false
theorem t95 (H : H95 D σ F) (x_1 : Int) (a_2 : Int) (b_3 : Int) (s : Nat → V) (hs : Facts [(0, (.int .i64 x_1)), (1, (.int .i64 a_2)), (2, (.int .i64 b_3))] s) (h : s_l1In F x_1 a_2 b_3 = some r) : Run D σ (R95 r) (.run A95 []) s := by
  unfold s_l1In at h
  obtain ⟨h0, h1, h2⟩ := hs
  refine .seq ?_
  refine run_reg ?_
  refine e_end ?_
  refine g_v0 (.bool false) rfl rfl ?_
  refine g_end ?_
  refine e_end ?_
  refine renew [(0, (.int .i64 x_1)), (1, (.int .i64 a_2)), (2, (.int .i64 b_3)), (6, (.bool false))] ⟨h0, h1, h2, rfl⟩ ?_
  rintro s ⟨h0, h1, h2, h6⟩
  refine .nsq ?_
  refine .seq ?_
  refine run_reg ?_
  refine e_end ?_
  refine g_v1 (t := 0) (u := (.int .i64 x_1)) (.int .i64 x_1) h0 rfl rfl ?_
  refine g_v1 (t := 1) (u := (.int .i64 a_2)) (.int .i64 a_2) h1 rfl rfl ?_
  refine g_v2 (t1 := 7) (t2 := 8) (u1 := (.int .i64 x_1)) (u2 := (.int .i64 a_2)) (.bool (decide (x_1 ≥ a_2))) rfl rfl rfl rfl ?_
  refine g_v1 (t := 9) (u := (.bool (decide (x_1 ≥ a_2)))) (.bool (decide (x_1 ≥ a_2))) rfl rfl rfl ?_
  refine split_on (c := decide (x_1 ≥ a_2)) h (fun hg4 h => ?_) (fun hg4 h => ?_)
  · refine g_yes (Eq.trans (b := .bool (decide (x_1 ≥ a_2))) rfl (congrArg V.bool hg4)) (g_v1 (t := 0) (u := (.int .i64 x_1)) (.int .i64 x_1) h0 rfl rfl ?_)
    refine g_yes (Eq.trans (b := .bool (decide (x_1 ≥ a_2))) rfl (congrArg V.bool hg4)) (g_v1 (t := 2) (u := (.int .i64 b_3)) (.int .i64 b_3) h2 rfl rfl ?_)
    refine g_yes (Eq.trans (b := .bool (decide (x_1 ≥ a_2))) rfl (congrArg V.bool hg4)) (g_v2 (t1 := 11) (t2 := 12) (u1 := (.int .i64 x_1)) (u2 := (.int .i64 b_3)) (.bool (decide (x_1 ≤ b_3))) rfl rfl rfl rfl ?_)
    refine g_v2 (t1 := 10) (t2 := 13) (u1 := (.bool true)) (u2 := (.bool (decide (x_1 ≤ b_3)))) (.bool (decide (x_1 ≤ b_3))) (Eq.trans (b := .bool (decide (x_1 ≥ a_2))) rfl (congrArg V.bool hg4)) rfl rfl rfl ?_
    refine g_v1 (t := 14) (u := (.bool (decide (x_1 ≤ b_3)))) (.bool (decide (x_1 ≤ b_3))) rfl rfl rfl ?_
    refine g_end ?_
    refine e_end ?_
    refine renew [(6, (.bool (decide (x_1 ≤ b_3))))] rfl ?_
    rintro s h6
    refine .nsq ?_
    refine .ret ?_
    have hr := Option.some.inj h
    subst hr
    exact rrA (res_tmp h6) rfl
  · refine g_no (Eq.trans (b := .bool (decide (x_1 ≥ a_2))) rfl (congrArg V.bool hg4)) ?_
    refine g_no (Eq.trans (b := .bool (decide (x_1 ≥ a_2))) rfl (congrArg V.bool hg4)) ?_
    refine g_no (Eq.trans (b := .bool (decide (x_1 ≥ a_2))) rfl (congrArg V.bool hg4)) ?_
    refine g_v2 (t1 := 10) (t2 := 13) (u1 := (.bool false)) (u2 := (.tup [])) (.bool false) (Eq.trans (b := .bool (decide (x_1 ≥ a_2))) rfl (congrArg V.bool hg4)) rfl rfl rfl ?_
    refine g_v1 (t := 14) (u := (.bool false)) (.bool false) rfl rfl rfl ?_
    refine g_end ?_
    refine e_end ?_
    refine renew [(6, (.bool false))] rfl ?_
    rintro s h6
    refine .nsq ?_
    refine .ret ?_
    have hr := Option.some.inj h
    subst hr
    exact rrA (res_tmp h6) rfl
end
def e95 (F : Nat) : Ent := ⟨95, da (fun (x : (Int × Int × Int × Unit)) => s_l1In F x.1 x.2.1 x.2.2.1) (fun (r : Bool) => (Enc.enc (r : Bool))), 0, false, selF []⟩
theorem p95 {F : Nat} {x0 : Int} {x1 : Int} {x2 : Int} {r : Bool} (h : s_l1In F x0 x1 x2 = some r) : (e95 F).den [Enc.enc x0, Enc.enc x1, Enc.enc x2] = some (Enc.enc (r : Bool)) := da_put (f := fun (x : (Int × Int × Int × Unit)) => s_l1In F x.1 x.2.1 x.2.2.1) (t := fun (r : Bool) => (Enc.enc (r : Bool))) (x0, x1, x2, ()) h
theorem o95 {D : Den} {σ : Sig} {F : Nat} (hF : Fits2 Try.prog D σ) (H : H95 D σ F) : (e95 F).Ok Try.prog := by
  refine ok_of (f := 95) (show unk 95 = 95 from rfl) (fun args r h => ?_) ⟨Try.f95, Try.func95, rfl, rfl⟩
  obtain ⟨⟨x0, x1, x2, _⟩, y, rfl, hy, rfl⟩ := da_open h
  exact contract_run hF (by kernel_rfl) Try.func95 rfl c95 (show 3 ≤ Try.f95.ntmps by decide) (t95 H x0 x1 x2 _ ⟨rfl, rfl, rfl⟩ hy)
/- loop.example/g01109/spec.l2Before -/
def A96_1 : AC := (AC.seq (AC.reg [] [(I.mk (some 5) none false (X.v (A.idxA (O.t 2) (O.k (V.int IntKind.i64 (Int.ofNat 0))) 2 1))), (I.mk (some 6) none false (X.v (A.load Sh.s (O.t 5)))), (I.mk (some 7) none false (X.v (A.idxA (O.t 3) (O.k (V.int IntKind.i64 (Int.ofNat 0))) 2 1))), (I.mk (some 8) none false (X.v (A.load Sh.s (O.t 7)))), (I.mk (some 9) none false (X.v (A.bin BinOp.lss (O.t 6) (O.t 8)))), (I.mk (some 10) none false (X.v (A.mov (O.t 9)))), (I.mk (some 11) (some (10, false)) false (X.v (A.idxA (O.t 2) (O.k (V.int IntKind.i64 (Int.ofNat 0))) 2 1))), (I.mk (some 12) (some (10, false)) false (X.v (A.load Sh.s (O.t 11)))), (I.mk (some 13) (some (10, false)) false (X.v (A.idxA (O.t 3) (O.k (V.int IntKind.i64 (Int.ofNat 0))) 2 1))), (I.mk (some 14) (some (10, false)) false (X.v (A.load Sh.s (O.t 13)))), (I.mk (some 15) (some (10, false)) false (X.v (A.bin BinOp.eql (O.t 12) (O.t 14)))), (I.mk (some 16) (some (10, false)) false (X.v (A.mov (O.t 15)))), (I.mk (some 17) (some (16, true)) false (X.v (A.idxA (O.t 2) (O.k (V.int IntKind.i64 (Int.ofNat 1))) 2 1))), (I.mk (some 18) (some (16, true)) false (X.v (A.load Sh.s (O.t 17)))), (I.mk (some 19) (some (16, true)) false (X.v (A.idxA (O.t 3) (O.k (V.int IntKind.i64 (Int.ofNat 1))) 2 1))), (I.mk (some 20) (some (16, true)) false (X.v (A.load Sh.s (O.t 19)))), (I.mk (some 21) (some (16, true)) false (X.v (A.bin BinOp.lss (O.t 18) (O.t 20)))), (I.mk (some 22) (some (10, false)) false (X.v (A.pick (O.t 16) (O.t 21) (O.k (V.bool false))))), (I.mk (some 23) none false (X.v (A.pick (O.t 10) (O.k (V.bool true)) (O.t 22)))), (I.mk (some 4) none false (X.v (A.mov (O.t 23))))] []) AC.ret)
def A96 : AC := (AC.seq (AC.reg [.clr [2, 3]] [(I.mk (some 2) none false (X.box (O.t 0))), (I.mk (some 3) none false (X.box (O.t 1))), (I.mk (some 4) none false (X.v (A.mov (O.k (V.bool false)))))] []) A96_1)
def an96 : List An := [{ id := 0, pre := [.clr [2, 3]], ep := [], lin := [], sp := [] }]
theorem c96 : cC Try.prog Try.f96.ntmps an96 (Try.f96.body.getD .skip) = some A96 := by kernel_rfl
structure H96 (D : Den) (σ : Sig) (F : Nat) : Prop where
  mk ::
abbrev R96 (r : Bool) : (Nat → V) → Prop := RR Try.prog [.tmp 4] 0 false (Enc.enc (r : Bool))
section
variable {D : Den} {σ : Sig} {F : Nat} {r : Bool}
def s_l2Before (F : Nat) (a_1 : (Int × Int)) (b_2 : (Int × Int)) : Option Bool :=
  bif decide (a_1.1 < b_2.1) then
    some true
  else
    bif (a_1.1 == b_2.1) then
      some (decide (a_1.2 < b_2.2))
    else
      some false
theorem t96 (H : H96 D σ F) (a_1 : (Int × Int)) (b_2 : (Int × Int)) (s : Nat → V) (hs : Facts [(0, (.agg [(.int .i64 a_1.1), (.int .i64 a_1.2)])), (1, (.agg [(.int .i64 b_2.1), (.int .i64 b_2.2)]))] s) (h : s_l2Before F a_1 b_2 = some r) : Run D σ (R96 r) (.run A96 []) s := by
  unfold s_l2Before at h
  obtain ⟨h0, h1⟩ := hs
  refine .seq ?_
  refine run_reg ?_
  refine e_clr ?_
  refine e_end ?_
  refine g_box (.agg [(.int .i64 a_1.1), (.int .i64 a_1.2)]) (rd_of (keep_clear (s := s) (pk := [2, 3]) h0 rfl (map_agg (maps_cons rfl (maps_cons rfl maps_nil)))) rfl) (gone_clear (s := s) (pk := [2, 3]) (t := 2) rfl) rfl ?_
  refine g_box (.agg [(.int .i64 b_2.1), (.int .i64 b_2.2)]) (rd_of (keep_clear (s := s) (pk := [2, 3]) h1 rfl (map_agg (maps_cons rfl (maps_cons rfl maps_nil)))) rfl) (gone_clear (s := s) (pk := [2, 3]) (t := 3) rfl) rfl ?_
  refine g_v0 (.bool false) rfl rfl ?_
  refine g_end ?_
  refine e_end ?_
  refine renew [(2, (.ref (.bx 2) 0 [] (.agg [(.int .i64 a_1.1), (.int .i64 a_1.2)]))), (3, (.ref (.bx 3) 0 [] (.agg [(.int .i64 b_2.1), (.int .i64 b_2.2)]))), (4, (.bool false))] ⟨rfl, rfl, rfl⟩ ?_
  rintro s ⟨h2, h3, h4⟩
  refine .nsq ?_
  refine .seq ?_
  refine run_reg ?_
  refine e_end ?_
  refine g_v1 (t := 2) (u := (.ref (.bx 2) 0 [] (.agg [(.int .i64 a_1.1), (.int .i64 a_1.2)]))) (.ref (.bx 2) 0 [0] (.int .i64 a_1.1)) h2 rfl rfl ?_
  refine g_v1 (t := 5) (u := (.ref (.bx 2) 0 [0] (.int .i64 a_1.1))) (.int .i64 a_1.1) rfl rfl rfl ?_
  refine g_v1 (t := 3) (u := (.ref (.bx 3) 0 [] (.agg [(.int .i64 b_2.1), (.int .i64 b_2.2)]))) (.ref (.bx 3) 0 [0] (.int .i64 b_2.1)) h3 rfl rfl ?_
  refine g_v1 (t := 7) (u := (.ref (.bx 3) 0 [0] (.int .i64 b_2.1))) (.int .i64 b_2.1) rfl rfl rfl ?_
  refine g_v2 (t1 := 6) (t2 := 8) (u1 := (.int .i64 a_1.1)) (u2 := (.int .i64 b_2.1)) (.bool (decide (a_1.1 < b_2.1))) rfl rfl rfl rfl ?_
  refine g_v1 (t := 9) (u := (.bool (decide (a_1.1 < b_2.1)))) (.bool (decide (a_1.1 < b_2.1))) rfl rfl rfl ?_
  refine split_on (c := decide (a_1.1 < b_2.1)) h (fun hg6 h => ?_) (fun hg6 h => ?_)
  · refine g_no (Eq.trans (b := .bool (decide (a_1.1 < b_2.1))) rfl (congrArg V.bool hg6)) ?_
    refine g_no (Eq.trans (b := .bool (decide (a_1.1 < b_2.1))) rfl (congrArg V.bool hg6)) ?_
    refine g_no (Eq.trans (b := .bool (decide (a_1.1 < b_2.1))) rfl (congrArg V.bool hg6)) ?_
    refine g_no (Eq.trans (b := .bool (decide (a_1.1 < b_2.1))) rfl (congrArg V.bool hg6)) ?_
    refine g_no (Eq.trans (b := .bool (decide (a_1.1 < b_2.1))) rfl (congrArg V.bool hg6)) ?_
    refine g_no (Eq.trans (b := .bool (decide (a_1.1 < b_2.1))) rfl (congrArg V.bool hg6)) ?_
    refine g_skip rfl ?_
    refine g_skip rfl ?_
    refine g_skip rfl ?_
    refine g_skip rfl ?_
    refine g_skip rfl ?_
    refine g_no (Eq.trans (b := .bool (decide (a_1.1 < b_2.1))) rfl (congrArg V.bool hg6)) ?_
    refine g_v2 (t1 := 10) (t2 := 22) (u1 := (.bool true)) (u2 := (.tup [])) (.bool true) (Eq.trans (b := .bool (decide (a_1.1 < b_2.1))) rfl (congrArg V.bool hg6)) rfl rfl rfl ?_
    refine g_v1 (t := 23) (u := (.bool true)) (.bool true) rfl rfl rfl ?_
    refine g_end ?_
    refine e_end ?_
    refine renew [(4, (.bool true))] rfl ?_
    rintro s h4
    refine .nsq ?_
    refine .ret ?_
    have hr := Option.some.inj h
    subst hr
    exact rrA (res_tmp h4) rfl
  · refine g_yes (Eq.trans (b := .bool (decide (a_1.1 < b_2.1))) rfl (congrArg V.bool hg6)) (g_v1 (t := 2) (u := (.ref (.bx 2) 0 [] (.agg [(.int .i64 a_1.1), (.int .i64 a_1.2)]))) (.ref (.bx 2) 0 [0] (.int .i64 a_1.1)) h2 rfl rfl ?_)
    refine g_yes (Eq.trans (b := .bool (decide (a_1.1 < b_2.1))) rfl (congrArg V.bool hg6)) (g_v1 (t := 11) (u := (.ref (.bx 2) 0 [0] (.int .i64 a_1.1))) (.int .i64 a_1.1) rfl rfl rfl ?_)
    refine g_yes (Eq.trans (b := .bool (decide (a_1.1 < b_2.1))) rfl (congrArg V.bool hg6)) (g_v1 (t := 3) (u := (.ref (.bx 3) 0 [] (.agg [(.int .i64 b_2.1), (.int .i64 b_2.2)]))) (.ref (.bx 3) 0 [0] (.int .i64 b_2.1)) h3 rfl rfl ?_)
    refine g_yes (Eq.trans (b := .bool (decide (a_1.1 < b_2.1))) rfl (congrArg V.bool hg6)) (g_v1 (t := 13) (u := (.ref (.bx 3) 0 [0] (.int .i64 b_2.1))) (.int .i64 b_2.1) rfl rfl rfl ?_)
    refine g_yes (Eq.trans (b := .bool (decide (a_1.1 < b_2.1))) rfl (congrArg V.bool hg6)) (g_v2 (t1 := 12) (t2 := 14) (u1 := (.int .i64 a_1.1)) (u2 := (.int .i64 b_2.1)) (.bool (a_1.1 == b_2.1)) rfl rfl rfl rfl ?_)
    refine g_yes (Eq.trans (b := .bool (decide (a_1.1 < b_2.1))) rfl (congrArg V.bool hg6)) (g_v1 (t := 15) (u := (.bool (a_1.1 == b_2.1))) (.bool (a_1.1 == b_2.1)) rfl rfl rfl ?_)
    refine split_on (c := (a_1.1 == b_2.1)) h (fun hg12 h => ?_) (fun hg12 h => ?_)
    · refine g_yes (Eq.trans (b := .bool (a_1.1 == b_2.1)) rfl (congrArg V.bool hg12)) (g_v1 (t := 2) (u := (.ref (.bx 2) 0 [] (.agg [(.int .i64 a_1.1), (.int .i64 a_1.2)]))) (.ref (.bx 2) 0 [1] (.int .i64 a_1.2)) h2 rfl rfl ?_)
      refine g_yes (Eq.trans (b := .bool (a_1.1 == b_2.1)) rfl (congrArg V.bool hg12)) (g_v1 (t := 17) (u := (.ref (.bx 2) 0 [1] (.int .i64 a_1.2))) (.int .i64 a_1.2) rfl rfl rfl ?_)
      refine g_yes (Eq.trans (b := .bool (a_1.1 == b_2.1)) rfl (congrArg V.bool hg12)) (g_v1 (t := 3) (u := (.ref (.bx 3) 0 [] (.agg [(.int .i64 b_2.1), (.int .i64 b_2.2)]))) (.ref (.bx 3) 0 [1] (.int .i64 b_2.2)) h3 rfl rfl ?_)
      refine g_yes (Eq.trans (b := .bool (a_1.1 == b_2.1)) rfl (congrArg V.bool hg12)) (g_v1 (t := 19) (u := (.ref (.bx 3) 0 [1] (.int .i64 b_2.2))) (.int .i64 b_2.2) rfl rfl rfl ?_)
      refine g_yes (Eq.trans (b := .bool (a_1.1 == b_2.1)) rfl (congrArg V.bool hg12)) (g_v2 (t1 := 18) (t2 := 20) (u1 := (.int .i64 a_1.2)) (u2 := (.int .i64 b_2.2)) (.bool (decide (a_1.2 < b_2.2))) rfl rfl rfl rfl ?_)
      refine g_yes (Eq.trans (b := .bool (decide (a_1.1 < b_2.1))) rfl (congrArg V.bool hg6)) (g_v2 (t1 := 16) (t2 := 21) (u1 := (.bool true)) (u2 := (.bool (decide (a_1.2 < b_2.2)))) (.bool (decide (a_1.2 < b_2.2))) (Eq.trans (b := .bool (a_1.1 == b_2.1)) rfl (congrArg V.bool hg12)) rfl rfl rfl ?_)
      refine g_v2 (t1 := 10) (t2 := 22) (u1 := (.bool false)) (u2 := (.bool (decide (a_1.2 < b_2.2)))) (.bool (decide (a_1.2 < b_2.2))) (Eq.trans (b := .bool (decide (a_1.1 < b_2.1))) rfl (congrArg V.bool hg6)) rfl rfl rfl ?_
      refine g_v1 (t := 23) (u := (.bool (decide (a_1.2 < b_2.2)))) (.bool (decide (a_1.2 < b_2.2))) rfl rfl rfl ?_
      refine g_end ?_
      refine e_end ?_
      refine renew [(4, (.bool (decide (a_1.2 < b_2.2))))] rfl ?_
      rintro s h4
      refine .nsq ?_
      refine .ret ?_
      have hr := Option.some.inj h
      subst hr
      exact rrA (res_tmp h4) rfl
    · refine g_no (Eq.trans (b := .bool (a_1.1 == b_2.1)) rfl (congrArg V.bool hg12)) ?_
      refine g_no (Eq.trans (b := .bool (a_1.1 == b_2.1)) rfl (congrArg V.bool hg12)) ?_
      refine g_no (Eq.trans (b := .bool (a_1.1 == b_2.1)) rfl (congrArg V.bool hg12)) ?_
      refine g_no (Eq.trans (b := .bool (a_1.1 == b_2.1)) rfl (congrArg V.bool hg12)) ?_
      refine g_no (Eq.trans (b := .bool (a_1.1 == b_2.1)) rfl (congrArg V.bool hg12)) ?_
      refine g_yes (Eq.trans (b := .bool (decide (a_1.1 < b_2.1))) rfl (congrArg V.bool hg6)) (g_v2 (t1 := 16) (t2 := 21) (u1 := (.bool false)) (u2 := (.tup [])) (.bool false) (Eq.trans (b := .bool (a_1.1 == b_2.1)) rfl (congrArg V.bool hg12)) rfl rfl rfl ?_)
      refine g_v2 (t1 := 10) (t2 := 22) (u1 := (.bool false)) (u2 := (.bool false)) (.bool false) (Eq.trans (b := .bool (decide (a_1.1 < b_2.1))) rfl (congrArg V.bool hg6)) rfl rfl rfl ?_
      refine g_v1 (t := 23) (u := (.bool false)) (.bool false) rfl rfl rfl ?_
      refine g_end ?_
      refine e_end ?_
      refine renew [(4, (.bool false))] rfl ?_
      rintro s h4
      refine .nsq ?_
      refine .ret ?_
      have hr := Option.some.inj h
      subst hr
      exact rrA (res_tmp h4) rfl
end
def e96 (F : Nat) : Ent := ⟨96, da (fun (x : ((Int × Int) × (Int × Int) × Unit)) => s_l2Before F x.1 x.2.1) (fun (r : Bool) => (Enc.enc (r : Bool))), 0, false, selF []⟩
theorem p96 {F : Nat} {x0 : (Int × Int)} {x1 : (Int × Int)} {r : Bool} (h : s_l2Before F x0 x1 = some r) : (e96 F).den [Enc.enc x0, Enc.enc x1] = some (Enc.enc (r : Bool)) := da_put (f := fun (x : ((Int × Int) × (Int × Int) × Unit)) => s_l2Before F x.1 x.2.1) (t := fun (r : Bool) => (Enc.enc (r : Bool))) (x0, x1, ()) h
theorem o96 {D : Den} {σ : Sig} {F : Nat} (hF : Fits2 Try.prog D σ) (H : H96 D σ F) : (e96 F).Ok Try.prog := by
  refine ok_of (f := 96) (show unk 96 = 96 from rfl) (fun args r h => ?_) ⟨Try.f96, Try.func96, rfl, rfl⟩
  obtain ⟨⟨x0, x1, _⟩, y, rfl, hy, rfl⟩ := da_open h
  exact contract_run hF (by kernel_rfl) Try.func96 rfl c96 (show 2 ≤ Try.f96.ntmps by decide) (t96 H x0 x1 _ ⟨rfl, rfl⟩ hy)
/- loop.example/g01109/spec.l2Good -/
def A48_2 : AC := (AC.cond (O.t 9) AC.skip (AC.exit 0))
def A48_5 : AC := (AC.cond (O.t 54) (AC.seq (AC.reg [] [(I.mk (some 2) none false (X.v (A.mov (O.k (V.bool false)))))] []) AC.ret) AC.skip)
def A48_4 : AC := (AC.seq (AC.reg [] [(I.mk (some 17) none false (X.v (A.idxA (O.t 4) (O.k (V.int IntKind.i64 (Int.ofNat 0))) 2 1))), (I.mk (some 18) none false (X.v (A.load Sh.s (O.t 17)))), (I.mk (some 19) none false (X.v (A.fld (O.t 1) 0 0))), (I.mk (some 20) none false (X.v (A.load Sh.s (O.t 19)))), (I.mk (some 21) none false (X.v (A.bin BinOp.sub (O.t 20) (O.k (V.int IntKind.i64 (Int.ofNat 1)))))), (I.mk (some 22) none false (X.call (O.k (V.fn 95 [] [])) [(O.t 18), (O.k (V.int IntKind.i64 (Int.ofNat 0))), (O.t 21)])), (I.mk (some 23) none false (X.v (A.un UnOp.not (O.t 22)))), (I.mk (some 24) none false (X.v (A.mov (O.t 23)))), (I.mk (some 25) (some (24, false)) false (X.v (A.idxA (O.t 4) (O.k (V.int IntKind.i64 (Int.ofNat 1))) 2 1))), (I.mk (some 26) (some (24, false)) false (X.v (A.load Sh.s (O.t 25)))), (I.mk (some 27) (some (24, false)) false (X.v (A.fld (O.t 1) 0 0))), (I.mk (some 28) (some (24, false)) false (X.v (A.load Sh.s (O.t 27)))), (I.mk (some 29) (some (24, false)) false (X.v (A.bin BinOp.sub (O.t 28) (O.k (V.int IntKind.i64 (Int.ofNat 1)))))), (I.mk (some 30) (some (24, false)) false (X.call (O.k (V.fn 95 [] [])) [(O.t 26), (O.k (V.int IntKind.i64 (Int.ofNat 0))), (O.t 29)])), (I.mk (some 31) (some (24, false)) false (X.v (A.un UnOp.not (O.t 30)))), (I.mk (some 32) none false (X.v (A.pick (O.t 24) (O.k (V.bool true)) (O.t 31)))), (I.mk (some 33) none false (X.v (A.mov (O.t 32)))), (I.mk (some 34) (some (33, false)) false (X.v (A.idxA (O.t 4) (O.k (V.int IntKind.i64 (Int.ofNat 0))) 2 1))), (I.mk (some 35) (some (33, false)) false (X.v (A.load Sh.s (O.t 34)))), (I.mk (some 36) (some (33, false)) false (X.v (A.idxA (O.t 4) (O.k (V.int IntKind.i64 (Int.ofNat 1))) 2 1))), (I.mk (some 37) (some (33, false)) false (X.v (A.load Sh.s (O.t 36)))), (I.mk (some 38) (some (33, false)) false (X.v (A.bin BinOp.geq (O.t 35) (O.t 37)))), (I.mk (some 39) none false (X.v (A.pick (O.t 33) (O.k (V.bool true)) (O.t 38)))), (I.mk (some 40) none false (X.v (A.mov (O.t 39)))), (I.mk (some 41) (some (40, false)) false (X.v (A.mov (O.t 3)))), (I.mk (some 42) (some (40, false)) false (X.v (A.bin BinOp.gtr (O.t 41) (O.k (V.int IntKind.i64 (Int.ofNat 0)))))), (I.mk (some 43) (some (40, false)) false (X.v (A.mov (O.t 42)))), (I.mk (some 44) (some (43, true)) false (X.v (A.fld (O.t 1) 1 1))), (I.mk (some 45) (some (43, true)) false (X.v (A.load Sh.p (O.t 44)))), (I.mk (some 46) (some (43, true)) false (X.v (A.mov (O.t 3)))), (I.mk (some 47) (some (43, true)) false (X.v (A.bin BinOp.sub (O.t 46) (O.k (V.int IntKind.i64 (Int.ofNat 1)))))), (I.mk (some 48) (some (43, true)) false (X.v (A.idx (O.t 45) (O.t 47) 2))), (I.mk (some 49) (some (43, true)) false (X.v (A.load (Sh.ag [Sh.s, Sh.s]) (O.t 48)))), (I.mk (some 50) (some (43, true)) false (X.v (A.load (Sh.ag [Sh.s, Sh.s]) (O.t 4)))), (I.mk (some 51) (some (43, true)) false (X.call (O.k (V.fn 96 [] [])) [(O.t 49), (O.t 50)])), (I.mk (some 52) (some (43, true)) false (X.v (A.un UnOp.not (O.t 51)))), (I.mk (some 53) (some (40, false)) false (X.v (A.pick (O.t 43) (O.t 52) (O.k (V.bool false))))), (I.mk (some 54) none false (X.v (A.pick (O.t 40) (O.k (V.bool true)) (O.t 53))))] []) A48_5)
def A48_6 : AC := (AC.reg [] [(I.mk (some 10) none false (X.v (A.mov (O.t 3)))), (I.mk (some 11) none false (X.v (A.bin BinOp.add (O.t 10) (O.k (V.int IntKind.i64 (Int.ofNat 1)))))), (I.mk (some 3) none false (X.v (A.mov (O.t 11))))] [])
def A48_3 : AC := (AC.seq (AC.block 1 (AC.seq (AC.reg [.clr [4]] [(I.mk (some 12) none false (X.v (A.fld (O.t 1) 1 1))), (I.mk (some 13) none false (X.v (A.load Sh.p (O.t 12)))), (I.mk (some 14) none false (X.v (A.mov (O.t 3)))), (I.mk (some 15) none false (X.v (A.idx (O.t 13) (O.t 14) 2))), (I.mk (some 16) none false (X.v (A.load (Sh.ag [Sh.s, Sh.s]) (O.t 15)))), (I.mk (some 4) none false (X.alloc (V.agg [(V.int IntKind.i64 (Int.ofNat 0)), (V.int IntKind.i64 (Int.ofNat 0))]))), (I.mk none none false (X.store (Sh.ag [Sh.s, Sh.s]) (O.t 4) (O.t 16)))] []) A48_4)) A48_6)
def A48_1 : AC := (AC.seq (AC.seq (AC.reg [] [(I.mk (some 5) none false (X.v (A.mov (O.t 3)))), (I.mk (some 6) none false (X.v (A.fld (O.t 1) 1 1))), (I.mk (some 7) none false (X.v (A.load Sh.p (O.t 6)))), (I.mk (some 8) none false (X.v (A.len (O.t 7)))), (I.mk (some 9) none false (X.v (A.bin BinOp.lss (O.t 5) (O.t 8))))] []) A48_2) A48_3)
def A48_7 : AC := (AC.seq (AC.reg [] [(I.mk (some 55) none false (X.v (A.fld (O.t 1) 0 0))), (I.mk (some 56) none false (X.v (A.load Sh.s (O.t 55)))), (I.mk (some 57) none false (X.call (O.k (V.fn 95 [] [])) [(O.t 56), (O.k (V.int IntKind.i64 (Int.ofNat 0))), (O.k (V.int IntKind.i64 (Int.ofNat 8)))])), (I.mk (some 2) none false (X.v (A.mov (O.t 57))))] []) AC.ret)
def A48_9 : AC := (AC.block 0 (AC.loop A48_1))
def A48_8 : AC := (AC.seq (AC.seq (AC.reg [] [(I.mk (some 3) none false (X.v (A.mov (O.k (V.int IntKind.i64 (Int.ofNat 0))))))] []) A48_9) A48_7)
def A48 : AC := (AC.seq (AC.reg [.clr [1]] [(I.mk (some 1) none false (X.box (O.t 0))), (I.mk (some 2) none false (X.v (A.mov (O.k (V.bool false)))))] []) A48_8)
def an48 : List An := [{ id := 0, pre := [.clr [1]], ep := [], lin := [], sp := [] }, { id := 4, pre := [.clr [4]], ep := [], lin := [], sp := [] }]
theorem c48 : cC Try.prog Try.f48.ntmps an48 (Try.f48.body.getD .skip) = some A48 := by kernel_rfl
structure H48 (D : Den) (σ : Sig) (F : Nat) : Prop where
  c95 : ∀ (x0 : Int) (x1 : Int) (x2 : Int) r, s_l1In F x0 x1 x2 = some r → D 95 [Enc.enc x0, Enc.enc x1, Enc.enc x2] = some (Enc.enc (r : Bool))
  g95 : σ 95 = some (0, false)
  c96 : ∀ (x0 : (Int × Int)) (x1 : (Int × Int)) r, s_l2Before F x0 x1 = some r → D 96 [Enc.enc x0, Enc.enc x1] = some (Enc.enc (r : Bool))
  g96 : σ 96 = some (0, false)
abbrev R48 (r : Bool) : (Nat → V) → Prop := RR Try.prog [.tmp 2] 0 false (Enc.enc (r : Bool))
section
variable {D : Den} {σ : Sig} {F : Nat} {r : Bool}
def s_l2Good_j1 (F : Nat) (g_1 : (Int × (List (Int × Int)))) (i_12 : Int) (c1 : Int → Option Bool) (t54_28 : Bool) : Option Bool :=
  bif t54_28 then
    some false
  else
    c1 (w64 (i_12 + 1))
theorem t_f48_j1 (H : H48 D σ F) (g_1 : (Int × (List (Int × Int)))) (i_12 : Int) (c1 : Int → Option Bool) (Hc1 : ∀ (i_12 : Int) (s : Nat → V), Facts [(1, (.ref (.bx 1) 0 [] (.agg [(.int .i64 g_1.1), (Enc.enc (g_1.2 : List (Int × Int)))]))), (2, (.bool false)), (3, (.int .i64 i_12))] s → c1 i_12 = some r → Run D σ (R48 r) (.run A48_1 [.lp A48_1, .bk 0, .sq A48_7]) s) (t54_28 : Bool) (s : Nat → V) (hs : Facts [(1, (.ref (.bx 1) 0 [] (.agg [(.int .i64 g_1.1), (Enc.enc (g_1.2 : List (Int × Int)))]))), (2, (.bool false)), (3, (.int .i64 i_12)), (54, (.bool t54_28))] s) (h : s_l2Good_j1 F g_1 i_12 c1 t54_28 = some r) : Run D σ (R48 r) (.nrm [.sq A48_5, .bk 1, .sq A48_6, .lp A48_1, .bk 0, .sq A48_7]) s := by
  unfold s_l2Good_j1 at h
  obtain ⟨h1, h2, h3, h54⟩ := hs
  refine .nsq ?_
  refine run_cond (t := t54_28) h54 h (fun h => ?_) (fun h => ?_)
  · refine .seq ?_
    refine run_reg ?_
    refine e_end ?_
    refine g_v0 (.bool false) rfl rfl ?_
    refine g_end ?_
    refine e_end ?_
    refine renew [(1, (.ref (.bx 1) 0 [] (.agg [(.int .i64 g_1.1), (Enc.enc (g_1.2 : List (Int × Int)))]))), (2, (.bool false)), (3, (.int .i64 i_12))] ⟨h1, rfl, h3⟩ ?_
    rintro s ⟨h1, h2, h3⟩
    refine .nsq ?_
    refine .ret ?_
    have hr := Option.some.inj h
    subst hr
    exact rrA (res_tmp h2) rfl
  · refine .skip ?_
    refine .nbk ?_
    refine .nsq ?_
    refine run_reg ?_
    refine e_end ?_
    refine g_v1 (t := 3) (u := (.int .i64 i_12)) (.int .i64 i_12) h3 rfl rfl ?_
    refine g_v1 (t := 10) (u := (.int .i64 i_12)) (.int .i64 (w64 (i_12 + 1))) rfl rfl rfl ?_
    refine g_v1 (t := 11) (u := (.int .i64 (w64 (i_12 + 1)))) (.int .i64 (w64 (i_12 + 1))) rfl rfl rfl ?_
    refine g_end ?_
    refine e_end ?_
    refine renew [(1, (.ref (.bx 1) 0 [] (.agg [(.int .i64 g_1.1), (Enc.enc (g_1.2 : List (Int × Int)))]))), (2, (.bool false)), (3, (.int .i64 (w64 (i_12 + 1))))] ⟨h1, h2, rfl⟩ ?_
    rintro s ⟨h1, h2, h3⟩
    refine .nlp ?_
    exact Hc1 (w64 (i_12 + 1)) _ ⟨h1, h2, h3⟩ h
def s_l2Good_l1 (F : Nat) (g_1 : (Int × (List (Int × Int))))  : Nat → Int → Option Bool
  | 0, _ => none
  | k + 1, i_12 =>
    bif decide (i_12 < (g_1.2.length : Int)) then
      (idx g_1.2 i_12).bind fun e_23 =>
      (s_l1In F e_23.1 0 (w64 (g_1.1 - 1))).bind fun r_29 =>
      bif (!r_29) then
        s_l2Good_j1 F g_1 i_12 (s_l2Good_l1 F g_1 k) true
      else
        (s_l1In F e_23.2 0 (w64 (g_1.1 - 1))).bind fun r_30 =>
        bif (!r_30) then
          s_l2Good_j1 F g_1 i_12 (s_l2Good_l1 F g_1 k) true
        else
          bif decide (e_23.1 ≥ e_23.2) then
            s_l2Good_j1 F g_1 i_12 (s_l2Good_l1 F g_1 k) true
          else
            bif decide (i_12 > 0) then
              (idx g_1.2 (w64 (i_12 - 1))).bind fun e_31 =>
              (s_l2Before F e_31 e_23).bind fun r_32 =>
              s_l2Good_j1 F g_1 i_12 (s_l2Good_l1 F g_1 k) (!r_32)
            else
              s_l2Good_j1 F g_1 i_12 (s_l2Good_l1 F g_1 k) false
    else
      (s_l1In F g_1.1 0 8).bind fun r_33 =>
      some r_33
theorem t_f48_l1 (H : H48 D σ F) (g_1 : (Int × (List (Int × Int))))  : ∀ (k : Nat) (i_12 : Int) (s : Nat → V), Facts [(1, (.ref (.bx 1) 0 [] (.agg [(.int .i64 g_1.1), (Enc.enc (g_1.2 : List (Int × Int)))]))), (2, (.bool false)), (3, (.int .i64 i_12))] s → s_l2Good_l1 F g_1 k i_12 = some r → Run D σ (R48 r) (.run A48_1 [.lp A48_1, .bk 0, .sq A48_7]) s := by
  intro k
  induction k with
  | zero => intro i_12 s _ h; exact nomatch (h : (none : Option _) = some r)
  | succ k ih =>
    intro i_12 s hs h
    rw [s_l2Good_l1] at h
    obtain ⟨h1, h2, h3⟩ := hs
    refine .seq ?_
    refine .seq ?_
    refine run_reg ?_
    refine e_end ?_
    refine g_v1 (t := 3) (u := (.int .i64 i_12)) (.int .i64 i_12) h3 rfl rfl ?_
    refine g_v1 (t := 1) (u := (.ref (.bx 1) 0 [] (.agg [(.int .i64 g_1.1), (Enc.enc (g_1.2 : List (Int × Int)))]))) (.ref (.bx 1) 0 [1] (Enc.enc (g_1.2 : List (Int × Int)))) h1 rfl rfl ?_
    refine g_v1 (t := 6) (u := (.ref (.bx 1) 0 [1] (Enc.enc (g_1.2 : List (Int × Int))))) (Enc.enc (g_1.2 : List (Int × Int))) rfl rfl rfl ?_
    refine g_v (.int .i64 (g_1.2.length : Int)) (ev_len (xs := g_1.2) rfl) ?_
    refine g_v2 (t1 := 5) (t2 := 8) (u1 := (.int .i64 i_12)) (u2 := (.int .i64 (g_1.2.length : Int))) (.bool (decide (i_12 < (g_1.2.length : Int)))) rfl rfl rfl rfl ?_
    refine g_end ?_
    refine e_end ?_
    refine renew [(1, (.ref (.bx 1) 0 [] (.agg [(.int .i64 g_1.1), (Enc.enc (g_1.2 : List (Int × Int)))]))), (2, (.bool false)), (3, (.int .i64 i_12)), (9, (.bool (decide (i_12 < (g_1.2.length : Int)))))] ⟨h1, h2, h3, rfl⟩ ?_
    rintro s ⟨h1, h2, h3, h9⟩
    refine .nsq ?_
    refine run_cond (t := decide (i_12 < (g_1.2.length : Int))) h9 h (fun h => ?_) (fun h => ?_)
    · refine .skip ?_
      refine .nsq ?_
      refine .seq ?_
      refine .block ?_
      refine .seq ?_
      refine run_reg ?_
      refine e_clr ?_
      refine e_end ?_
      refine g_v1 (t := 1) (u := (.ref (.bx 1) 0 [] (.agg [(.int .i64 g_1.1), (Enc.enc (g_1.2 : List (Int × Int)))]))) (.ref (.bx 1) 0 [1] (Enc.enc (g_1.2 : List (Int × Int)))) (keep_clear (s := s) (pk := [4]) h1 rfl (map_bx rfl (map_agg (maps_cons rfl (maps_cons (Enc.map_enc _ (g_1.2 : List (Int × Int))) maps_nil))))) rfl rfl ?_
      refine g_v1 (t := 12) (u := (.ref (.bx 1) 0 [1] (Enc.enc (g_1.2 : List (Int × Int))))) (Enc.enc (g_1.2 : List (Int × Int))) rfl rfl rfl ?_
      refine g_v1 (t := 3) (u := (.int .i64 i_12)) (.int .i64 i_12) (keep_clear (s := s) (pk := [4]) h3 rfl rfl) rfl rfl ?_
      obtain ⟨e_23, E_e_23, h⟩ := bind_some h
      refine g_v (.ref .sh 0 [] (.agg [(.int .i64 e_23.1), (.int .i64 e_23.2)])) (ev_idx (t := .sh) (lo := 0) (xs := g_1.2) rfl rfl E_e_23 rfl rfl) ?_
      refine g_v1 (t := 15) (u := (.ref .sh 0 [] (.agg [(.int .i64 e_23.1), (.int .i64 e_23.2)]))) (.agg [(.int .i64 e_23.1), (.int .i64 e_23.2)]) rfl rfl rfl ?_
      refine g_alloc (gone_clear (s := s) (pk := [4]) (t := 4) rfl) ?_
      refine g_store (.agg [(.int .i64 e_23.1), (.int .i64 e_23.2)]) (rd_of rfl rfl) (rd_of rfl rfl) (by refine ⟨by decide, by decide, rfl, rfl, rfl, ?_⟩; first | rfl | simp [V.toks, V.tokss, Enc.toks_enc]) ?_
      refine g_end ?_
      refine e_end ?_
      refine renew [(1, (.ref (.bx 1) 0 [] (.agg [(.int .i64 g_1.1), (Enc.enc (g_1.2 : List (Int × Int)))]))), (2, (.bool false)), (3, (.int .i64 i_12)), (4, (.ref (.bx 4) 0 [] (.agg [(.int .i64 e_23.1), (.int .i64 e_23.2)])))] ⟨(keep_mut (keep_clear (s := s) (pk := [4]) h1 rfl (map_bx rfl (map_agg (maps_cons rfl (maps_cons (Enc.map_enc _ (g_1.2 : List (Int × Int))) maps_nil))))) (mut_ref_ne rfl rfl (mut_agg (muts_cons rfl (muts_cons (Enc.mut_enc _ _ _ _ (g_1.2 : List (Int × Int))) rfl))))), (keep_mut (keep_clear (s := s) (pk := [4]) h2 rfl rfl) rfl), (keep_mut (keep_clear (s := s) (pk := [4]) h3 rfl rfl) rfl), (keep_mut rfl rfl)⟩ ?_
      rintro s ⟨h1, h2, h3, h4⟩
      refine .nsq ?_
      refine .seq ?_
      refine run_reg ?_
      refine e_end ?_
      refine g_v1 (t := 4) (u := (.ref (.bx 4) 0 [] (.agg [(.int .i64 e_23.1), (.int .i64 e_23.2)]))) (.ref (.bx 4) 0 [0] (.int .i64 e_23.1)) h4 rfl rfl ?_
      refine g_v1 (t := 17) (u := (.ref (.bx 4) 0 [0] (.int .i64 e_23.1))) (.int .i64 e_23.1) rfl rfl rfl ?_
      refine g_v1 (t := 1) (u := (.ref (.bx 1) 0 [] (.agg [(.int .i64 g_1.1), (Enc.enc (g_1.2 : List (Int × Int)))]))) (.ref (.bx 1) 0 [0] (.int .i64 g_1.1)) h1 rfl rfl ?_
      refine g_v1 (t := 19) (u := (.ref (.bx 1) 0 [0] (.int .i64 g_1.1))) (.int .i64 g_1.1) rfl rfl rfl ?_
      refine g_v1 (t := 20) (u := (.int .i64 g_1.1)) (.int .i64 (w64 (g_1.1 - 1))) rfl rfl rfl ?_
      obtain ⟨r_29, E_r_29, h⟩ := bind_some h
      refine g_call (m := 0) (al := false) (r := (Enc.enc (r_29 : Bool))) [Enc.enc (e_23.1 : Int), Enc.enc (0 : Int), Enc.enc (w64 (g_1.1 - 1) : Int)] (ta_cons (v := (.int .i64 e_23.1)) rfl rfl rfl (ta_cons (v := (.int .i64 0)) rfl rfl rfl (ta_cons (v := (.int .i64 (w64 (g_1.1 - 1)))) rfl rfl rfl ta_nil))) (H.c95 _ _ _ _ E_r_29) H.g95 rfl rfl rfl rfl ?_
      refine g_v1 (t := 22) (u := (.bool r_29)) (.bool (!r_29)) rfl rfl rfl ?_
      refine g_v1 (t := 23) (u := (.bool (!r_29))) (.bool (!r_29)) rfl rfl rfl ?_
      refine split_on (c := (!r_29)) h (fun hg8 h => ?_) (fun hg8 h => ?_)
      · refine g_no (Eq.trans (b := .bool (!r_29)) rfl (congrArg V.bool hg8)) ?_
        refine g_no (Eq.trans (b := .bool (!r_29)) rfl (congrArg V.bool hg8)) ?_
        refine g_no (Eq.trans (b := .bool (!r_29)) rfl (congrArg V.bool hg8)) ?_
        refine g_no (Eq.trans (b := .bool (!r_29)) rfl (congrArg V.bool hg8)) ?_
        refine g_no (Eq.trans (b := .bool (!r_29)) rfl (congrArg V.bool hg8)) ?_
        refine g_no (Eq.trans (b := .bool (!r_29)) rfl (congrArg V.bool hg8)) ?_
        refine g_no (Eq.trans (b := .bool (!r_29)) rfl (congrArg V.bool hg8)) ?_
        refine g_v2 (t1 := 24) (t2 := 31) (u1 := (.bool true)) (u2 := (.tup [])) (.bool true) (Eq.trans (b := .bool (!r_29)) rfl (congrArg V.bool hg8)) rfl rfl rfl ?_
        refine g_v1 (t := 32) (u := (.bool true)) (.bool true) rfl rfl rfl ?_
        refine g_no rfl ?_
        refine g_no rfl ?_
        refine g_no rfl ?_
        refine g_no rfl ?_
        refine g_no rfl ?_
        refine g_v2 (t1 := 33) (t2 := 38) (u1 := (.bool true)) (u2 := (.tup [])) (.bool true) rfl rfl rfl rfl ?_
        refine g_v1 (t := 39) (u := (.bool true)) (.bool true) rfl rfl rfl ?_
        refine g_no rfl ?_
        refine g_no rfl ?_
        refine g_no rfl ?_
        refine g_skip rfl ?_
        refine g_skip rfl ?_
        refine g_skip rfl ?_
        refine g_skip rfl ?_
        refine g_skip rfl ?_
        refine g_skip rfl ?_
        refine g_skip rfl ?_
        refine g_skip rfl ?_
        refine g_skip rfl ?_
        refine g_no rfl ?_
        refine g_v2 (t1 := 40) (t2 := 53) (u1 := (.bool true)) (u2 := (.tup [])) (.bool true) rfl rfl rfl rfl ?_
        refine g_end ?_
        refine e_end ?_
        refine renew [(1, (.ref (.bx 1) 0 [] (.agg [(.int .i64 g_1.1), (Enc.enc (g_1.2 : List (Int × Int)))]))), (2, (.bool false)), (3, (.int .i64 i_12)), (54, (.bool true))] ⟨h1, h2, h3, rfl⟩ ?_
        rintro s ⟨h1, h2, h3, h54⟩
        exact t_f48_j1 H g_1 i_12 (s_l2Good_l1 F g_1 k) ih true _ ⟨h1, h2, h3, h54⟩ h
      · refine g_yes (Eq.trans (b := .bool (!r_29)) rfl (congrArg V.bool hg8)) (g_v1 (t := 4) (u := (.ref (.bx 4) 0 [] (.agg [(.int .i64 e_23.1), (.int .i64 e_23.2)]))) (.ref (.bx 4) 0 [1] (.int .i64 e_23.2)) h4 rfl rfl ?_)
        refine g_yes (Eq.trans (b := .bool (!r_29)) rfl (congrArg V.bool hg8)) (g_v1 (t := 25) (u := (.ref (.bx 4) 0 [1] (.int .i64 e_23.2))) (.int .i64 e_23.2) rfl rfl rfl ?_)
        refine g_yes (Eq.trans (b := .bool (!r_29)) rfl (congrArg V.bool hg8)) (g_v1 (t := 1) (u := (.ref (.bx 1) 0 [] (.agg [(.int .i64 g_1.1), (Enc.enc (g_1.2 : List (Int × Int)))]))) (.ref (.bx 1) 0 [0] (.int .i64 g_1.1)) h1 rfl rfl ?_)
        refine g_yes (Eq.trans (b := .bool (!r_29)) rfl (congrArg V.bool hg8)) (g_v1 (t := 27) (u := (.ref (.bx 1) 0 [0] (.int .i64 g_1.1))) (.int .i64 g_1.1) rfl rfl rfl ?_)
        refine g_yes (Eq.trans (b := .bool (!r_29)) rfl (congrArg V.bool hg8)) (g_v1 (t := 28) (u := (.int .i64 g_1.1)) (.int .i64 (w64 (g_1.1 - 1))) rfl rfl rfl ?_)
        obtain ⟨r_30, E_r_30, h⟩ := bind_some h
        refine g_yes (Eq.trans (b := .bool (!r_29)) rfl (congrArg V.bool hg8)) (g_call (m := 0) (al := false) (r := (Enc.enc (r_30 : Bool))) [Enc.enc (e_23.2 : Int), Enc.enc (0 : Int), Enc.enc (w64 (g_1.1 - 1) : Int)] (ta_cons (v := (.int .i64 e_23.2)) rfl rfl rfl (ta_cons (v := (.int .i64 0)) rfl rfl rfl (ta_cons (v := (.int .i64 (w64 (g_1.1 - 1)))) rfl rfl rfl ta_nil))) (H.c95 _ _ _ _ E_r_30) H.g95 rfl rfl rfl rfl ?_)
        refine g_yes (Eq.trans (b := .bool (!r_29)) rfl (congrArg V.bool hg8)) (g_v1 (t := 30) (u := (.bool r_30)) (.bool (!r_30)) rfl rfl rfl ?_)
        refine g_v2 (t1 := 24) (t2 := 31) (u1 := (.bool false)) (u2 := (.bool (!r_30))) (.bool (!r_30)) (Eq.trans (b := .bool (!r_29)) rfl (congrArg V.bool hg8)) rfl rfl rfl ?_
        refine g_v1 (t := 32) (u := (.bool (!r_30))) (.bool (!r_30)) rfl rfl rfl ?_
        refine split_on (c := (!r_30)) h (fun hg17 h => ?_) (fun hg17 h => ?_)
        · refine g_no (Eq.trans (b := .bool (!r_30)) rfl (congrArg V.bool hg17)) ?_
          refine g_no (Eq.trans (b := .bool (!r_30)) rfl (congrArg V.bool hg17)) ?_
          refine g_no (Eq.trans (b := .bool (!r_30)) rfl (congrArg V.bool hg17)) ?_
          refine g_no (Eq.trans (b := .bool (!r_30)) rfl (congrArg V.bool hg17)) ?_
          refine g_no (Eq.trans (b := .bool (!r_30)) rfl (congrArg V.bool hg17)) ?_
          refine g_v2 (t1 := 33) (t2 := 38) (u1 := (.bool true)) (u2 := (.tup [])) (.bool true) (Eq.trans (b := .bool (!r_30)) rfl (congrArg V.bool hg17)) rfl rfl rfl ?_
          refine g_v1 (t := 39) (u := (.bool true)) (.bool true) rfl rfl rfl ?_
          refine g_no rfl ?_
          refine g_no rfl ?_
          refine g_no rfl ?_
          refine g_skip rfl ?_
          refine g_skip rfl ?_
          refine g_skip rfl ?_
          refine g_skip rfl ?_
          refine g_skip rfl ?_
          refine g_skip rfl ?_
          refine g_skip rfl ?_
          refine g_skip rfl ?_
          refine g_skip rfl ?_
          refine g_no rfl ?_
          refine g_v2 (t1 := 40) (t2 := 53) (u1 := (.bool true)) (u2 := (.tup [])) (.bool true) rfl rfl rfl rfl ?_
          refine g_end ?_
          refine e_end ?_
          refine renew [(1, (.ref (.bx 1) 0 [] (.agg [(.int .i64 g_1.1), (Enc.enc (g_1.2 : List (Int × Int)))]))), (2, (.bool false)), (3, (.int .i64 i_12)), (54, (.bool true))] ⟨h1, h2, h3, rfl⟩ ?_
          rintro s ⟨h1, h2, h3, h54⟩
          exact t_f48_j1 H g_1 i_12 (s_l2Good_l1 F g_1 k) ih true _ ⟨h1, h2, h3, h54⟩ h
        · refine g_yes (Eq.trans (b := .bool (!r_30)) rfl (congrArg V.bool hg17)) (g_v1 (t := 4) (u := (.ref (.bx 4) 0 [] (.agg [(.int .i64 e_23.1), (.int .i64 e_23.2)]))) (.ref (.bx 4) 0 [0] (.int .i64 e_23.1)) h4 rfl rfl ?_)
          refine g_yes (Eq.trans (b := .bool (!r_30)) rfl (congrArg V.bool hg17)) (g_v1 (t := 34) (u := (.ref (.bx 4) 0 [0] (.int .i64 e_23.1))) (.int .i64 e_23.1) rfl rfl rfl ?_)
          refine g_yes (Eq.trans (b := .bool (!r_30)) rfl (congrArg V.bool hg17)) (g_v1 (t := 4) (u := (.ref (.bx 4) 0 [] (.agg [(.int .i64 e_23.1), (.int .i64 e_23.2)]))) (.ref (.bx 4) 0 [1] (.int .i64 e_23.2)) h4 rfl rfl ?_)
          refine g_yes (Eq.trans (b := .bool (!r_30)) rfl (congrArg V.bool hg17)) (g_v1 (t := 36) (u := (.ref (.bx 4) 0 [1] (.int .i64 e_23.2))) (.int .i64 e_23.2) rfl rfl rfl ?_)
          refine g_yes (Eq.trans (b := .bool (!r_30)) rfl (congrArg V.bool hg17)) (g_v2 (t1 := 35) (t2 := 37) (u1 := (.int .i64 e_23.1)) (u2 := (.int .i64 e_23.2)) (.bool (decide (e_23.1 ≥ e_23.2))) rfl rfl rfl rfl ?_)
          refine g_v2 (t1 := 33) (t2 := 38) (u1 := (.bool false)) (u2 := (.bool (decide (e_23.1 ≥ e_23.2)))) (.bool (decide (e_23.1 ≥ e_23.2))) (Eq.trans (b := .bool (!r_30)) rfl (congrArg V.bool hg17)) rfl rfl rfl ?_
          refine g_v1 (t := 39) (u := (.bool (decide (e_23.1 ≥ e_23.2)))) (.bool (decide (e_23.1 ≥ e_23.2))) rfl rfl rfl ?_
          refine split_on (c := decide (e_23.1 ≥ e_23.2)) h (fun hg24 h => ?_) (fun hg24 h => ?_)
          · refine g_no (Eq.trans (b := .bool (decide (e_23.1 ≥ e_23.2))) rfl (congrArg V.bool hg24)) ?_
            refine g_no (Eq.trans (b := .bool (decide (e_23.1 ≥ e_23.2))) rfl (congrArg V.bool hg24)) ?_
            refine g_no (Eq.trans (b := .bool (decide (e_23.1 ≥ e_23.2))) rfl (congrArg V.bool hg24)) ?_
            refine g_skip rfl ?_
            refine g_skip rfl ?_
            refine g_skip rfl ?_
            refine g_skip rfl ?_
            refine g_skip rfl ?_
            refine g_skip rfl ?_
            refine g_skip rfl ?_
            refine g_skip rfl ?_
            refine g_skip rfl ?_
            refine g_no (Eq.trans (b := .bool (decide (e_23.1 ≥ e_23.2))) rfl (congrArg V.bool hg24)) ?_
            refine g_v2 (t1 := 40) (t2 := 53) (u1 := (.bool true)) (u2 := (.tup [])) (.bool true) (Eq.trans (b := .bool (decide (e_23.1 ≥ e_23.2))) rfl (congrArg V.bool hg24)) rfl rfl rfl ?_
            refine g_end ?_
            refine e_end ?_
            refine renew [(1, (.ref (.bx 1) 0 [] (.agg [(.int .i64 g_1.1), (Enc.enc (g_1.2 : List (Int × Int)))]))), (2, (.bool false)), (3, (.int .i64 i_12)), (54, (.bool true))] ⟨h1, h2, h3, rfl⟩ ?_
            rintro s ⟨h1, h2, h3, h54⟩
            exact t_f48_j1 H g_1 i_12 (s_l2Good_l1 F g_1 k) ih true _ ⟨h1, h2, h3, h54⟩ h
          · refine g_yes (Eq.trans (b := .bool (decide (e_23.1 ≥ e_23.2))) rfl (congrArg V.bool hg24)) (g_v1 (t := 3) (u := (.int .i64 i_12)) (.int .i64 i_12) h3 rfl rfl ?_)
            refine g_yes (Eq.trans (b := .bool (decide (e_23.1 ≥ e_23.2))) rfl (congrArg V.bool hg24)) (g_v1 (t := 41) (u := (.int .i64 i_12)) (.bool (decide (i_12 > 0))) rfl rfl rfl ?_)
            refine g_yes (Eq.trans (b := .bool (decide (e_23.1 ≥ e_23.2))) rfl (congrArg V.bool hg24)) (g_v1 (t := 42) (u := (.bool (decide (i_12 > 0)))) (.bool (decide (i_12 > 0))) rfl rfl rfl ?_)
            refine split_on (c := decide (i_12 > 0)) h (fun hg27 h => ?_) (fun hg27 h => ?_)
            · refine g_yes (Eq.trans (b := .bool (decide (i_12 > 0))) rfl (congrArg V.bool hg27)) (g_v1 (t := 1) (u := (.ref (.bx 1) 0 [] (.agg [(.int .i64 g_1.1), (Enc.enc (g_1.2 : List (Int × Int)))]))) (.ref (.bx 1) 0 [1] (Enc.enc (g_1.2 : List (Int × Int)))) h1 rfl rfl ?_)
              refine g_yes (Eq.trans (b := .bool (decide (i_12 > 0))) rfl (congrArg V.bool hg27)) (g_v1 (t := 44) (u := (.ref (.bx 1) 0 [1] (Enc.enc (g_1.2 : List (Int × Int))))) (Enc.enc (g_1.2 : List (Int × Int))) rfl rfl rfl ?_)
              refine g_yes (Eq.trans (b := .bool (decide (i_12 > 0))) rfl (congrArg V.bool hg27)) (g_v1 (t := 3) (u := (.int .i64 i_12)) (.int .i64 i_12) h3 rfl rfl ?_)
              refine g_yes (Eq.trans (b := .bool (decide (i_12 > 0))) rfl (congrArg V.bool hg27)) (g_v1 (t := 46) (u := (.int .i64 i_12)) (.int .i64 (w64 (i_12 - 1))) rfl rfl rfl ?_)
              obtain ⟨e_31, E_e_31, h⟩ := bind_some h
              refine g_yes (Eq.trans (b := .bool (decide (i_12 > 0))) rfl (congrArg V.bool hg27)) (g_v (.ref .sh 0 [] (.agg [(.int .i64 e_31.1), (.int .i64 e_31.2)])) (ev_idx (t := .sh) (lo := 0) (xs := g_1.2) rfl rfl E_e_31 rfl rfl) ?_)
              refine g_yes (Eq.trans (b := .bool (decide (i_12 > 0))) rfl (congrArg V.bool hg27)) (g_v1 (t := 48) (u := (.ref .sh 0 [] (.agg [(.int .i64 e_31.1), (.int .i64 e_31.2)]))) (.agg [(.int .i64 e_31.1), (.int .i64 e_31.2)]) rfl rfl rfl ?_)
              refine g_yes (Eq.trans (b := .bool (decide (i_12 > 0))) rfl (congrArg V.bool hg27)) (g_v1 (t := 4) (u := (.ref (.bx 4) 0 [] (.agg [(.int .i64 e_23.1), (.int .i64 e_23.2)]))) (.agg [(.int .i64 e_23.1), (.int .i64 e_23.2)]) h4 rfl rfl ?_)
              obtain ⟨r_32, E_r_32, h⟩ := bind_some h
              refine g_yes (Eq.trans (b := .bool (decide (i_12 > 0))) rfl (congrArg V.bool hg27)) (g_call (m := 0) (al := false) (r := (Enc.enc (r_32 : Bool))) [Enc.enc (e_31 : (Int × Int)), Enc.enc (e_23 : (Int × Int))] (ta_cons (v := (.agg [(.int .i64 e_31.1), (.int .i64 e_31.2)])) rfl rfl (Enc.erase_enc (e_31 : (Int × Int))) (ta_cons (v := (.agg [(.int .i64 e_23.1), (.int .i64 e_23.2)])) rfl rfl (Enc.erase_enc (e_23 : (Int × Int))) ta_nil)) (H.c96 _ _ _ E_r_32) H.g96 rfl rfl rfl rfl ?_)
              refine g_yes (Eq.trans (b := .bool (decide (i_12 > 0))) rfl (congrArg V.bool hg27)) (g_v1 (t := 51) (u := (.bool r_32)) (.bool (!r_32)) rfl rfl rfl ?_)
              refine g_yes (Eq.trans (b := .bool (decide (e_23.1 ≥ e_23.2))) rfl (congrArg V.bool hg24)) (g_v2 (t1 := 43) (t2 := 52) (u1 := (.bool true)) (u2 := (.bool (!r_32))) (.bool (!r_32)) (Eq.trans (b := .bool (decide (i_12 > 0))) rfl (congrArg V.bool hg27)) rfl rfl rfl ?_)
              refine g_v2 (t1 := 40) (t2 := 53) (u1 := (.bool false)) (u2 := (.bool (!r_32))) (.bool (!r_32)) (Eq.trans (b := .bool (decide (e_23.1 ≥ e_23.2))) rfl (congrArg V.bool hg24)) rfl rfl rfl ?_
              refine g_end ?_
              refine e_end ?_
              refine renew [(1, (.ref (.bx 1) 0 [] (.agg [(.int .i64 g_1.1), (Enc.enc (g_1.2 : List (Int × Int)))]))), (2, (.bool false)), (3, (.int .i64 i_12)), (54, (.bool (!r_32)))] ⟨h1, h2, h3, rfl⟩ ?_
              rintro s ⟨h1, h2, h3, h54⟩
              exact t_f48_j1 H g_1 i_12 (s_l2Good_l1 F g_1 k) ih (!r_32) _ ⟨h1, h2, h3, h54⟩ h
            · refine g_no (Eq.trans (b := .bool (decide (i_12 > 0))) rfl (congrArg V.bool hg27)) ?_
              refine g_no (Eq.trans (b := .bool (decide (i_12 > 0))) rfl (congrArg V.bool hg27)) ?_
              refine g_no (Eq.trans (b := .bool (decide (i_12 > 0))) rfl (congrArg V.bool hg27)) ?_
              refine g_no (Eq.trans (b := .bool (decide (i_12 > 0))) rfl (congrArg V.bool hg27)) ?_
              refine g_no (Eq.trans (b := .bool (decide (i_12 > 0))) rfl (congrArg V.bool hg27)) ?_
              refine g_no (Eq.trans (b := .bool (decide (i_12 > 0))) rfl (congrArg V.bool hg27)) ?_
              refine g_no (Eq.trans (b := .bool (decide (i_12 > 0))) rfl (congrArg V.bool hg27)) ?_
              refine g_no (Eq.trans (b := .bool (decide (i_12 > 0))) rfl (congrArg V.bool hg27)) ?_
              refine g_no (Eq.trans (b := .bool (decide (i_12 > 0))) rfl (congrArg V.bool hg27)) ?_
              refine g_yes (Eq.trans (b := .bool (decide (e_23.1 ≥ e_23.2))) rfl (congrArg V.bool hg24)) (g_v2 (t1 := 43) (t2 := 52) (u1 := (.bool false)) (u2 := (.tup [])) (.bool false) (Eq.trans (b := .bool (decide (i_12 > 0))) rfl (congrArg V.bool hg27)) rfl rfl rfl ?_)
              refine g_v2 (t1 := 40) (t2 := 53) (u1 := (.bool false)) (u2 := (.bool false)) (.bool false) (Eq.trans (b := .bool (decide (e_23.1 ≥ e_23.2))) rfl (congrArg V.bool hg24)) rfl rfl rfl ?_
              refine g_end ?_
              refine e_end ?_
              refine renew [(1, (.ref (.bx 1) 0 [] (.agg [(.int .i64 g_1.1), (Enc.enc (g_1.2 : List (Int × Int)))]))), (2, (.bool false)), (3, (.int .i64 i_12)), (54, (.bool false))] ⟨h1, h2, h3, rfl⟩ ?_
              rintro s ⟨h1, h2, h3, h54⟩
              exact t_f48_j1 H g_1 i_12 (s_l2Good_l1 F g_1 k) ih false _ ⟨h1, h2, h3, h54⟩ h
    · refine .exit ?_
      refine .esq ?_
      refine .elp ?_
      refine .ebk ?_
      refine .nsq ?_
      refine .seq ?_
      refine run_reg ?_
      refine e_end ?_
      refine g_v1 (t := 1) (u := (.ref (.bx 1) 0 [] (.agg [(.int .i64 g_1.1), (Enc.enc (g_1.2 : List (Int × Int)))]))) (.ref (.bx 1) 0 [0] (.int .i64 g_1.1)) h1 rfl rfl ?_
      refine g_v1 (t := 55) (u := (.ref (.bx 1) 0 [0] (.int .i64 g_1.1))) (.int .i64 g_1.1) rfl rfl rfl ?_
      obtain ⟨r_33, E_r_33, h⟩ := bind_some h
      refine g_call (m := 0) (al := false) (r := (Enc.enc (r_33 : Bool))) [Enc.enc (g_1.1 : Int), Enc.enc (0 : Int), Enc.enc (8 : Int)] (ta_cons (v := (.int .i64 g_1.1)) rfl rfl rfl (ta_cons (v := (.int .i64 0)) rfl rfl rfl (ta_cons (v := (.int .i64 8)) rfl rfl rfl ta_nil))) (H.c95 _ _ _ _ E_r_33) H.g95 rfl rfl rfl rfl ?_
      refine g_v1 (t := 57) (u := (.bool r_33)) (.bool r_33) rfl rfl rfl ?_
      refine g_end ?_
      refine e_end ?_
      refine renew [(2, (.bool r_33))] rfl ?_
      rintro s h2
      refine .nsq ?_
      refine .ret ?_
      have hr := Option.some.inj h
      subst hr
      exact rrA (res_tmp h2) rfl
def s_l2Good (F : Nat) (g_1 : (Int × (List (Int × Int)))) : Option Bool :=
  s_l2Good_l1 F g_1 F 0
theorem t48 (H : H48 D σ F) (g_1 : (Int × (List (Int × Int)))) (s : Nat → V) (hs : Facts [(0, (.agg [(.int .i64 g_1.1), (Enc.enc (g_1.2 : List (Int × Int)))]))] s) (h : s_l2Good F g_1 = some r) : Run D σ (R48 r) (.run A48 []) s := by
  unfold s_l2Good at h
  have h0 := hs
  refine .seq ?_
  refine run_reg ?_
  refine e_clr ?_
  refine e_end ?_
  refine g_box (.agg [(.int .i64 g_1.1), (Enc.enc (g_1.2 : List (Int × Int)))]) (rd_of (keep_clear (s := s) (pk := [1]) h0 rfl (map_agg (maps_cons rfl (maps_cons (Enc.map_enc _ (g_1.2 : List (Int × Int))) maps_nil)))) rfl) (gone_clear (s := s) (pk := [1]) (t := 1) rfl) rfl ?_
  refine g_v0 (.bool false) rfl rfl ?_
  refine g_end ?_
  refine e_end ?_
  refine renew [(1, (.ref (.bx 1) 0 [] (.agg [(.int .i64 g_1.1), (Enc.enc (g_1.2 : List (Int × Int)))]))), (2, (.bool false))] ⟨rfl, rfl⟩ ?_
  rintro s ⟨h1, h2⟩
  refine .nsq ?_
  refine .seq ?_
  refine .seq ?_
  refine run_reg ?_
  refine e_end ?_
  refine g_v0 (.int .i64 0) rfl rfl ?_
  refine g_end ?_
  refine e_end ?_
  refine renew [(1, (.ref (.bx 1) 0 [] (.agg [(.int .i64 g_1.1), (Enc.enc (g_1.2 : List (Int × Int)))]))), (2, (.bool false)), (3, (.int .i64 0))] ⟨h1, h2, rfl⟩ ?_
  rintro s ⟨h1, h2, h3⟩
  refine .nsq ?_
  refine .block ?_
  refine .loop ?_
  exact t_f48_l1 H g_1 F 0 _ ⟨h1, h2, h3⟩ h
end
def e48 (F : Nat) : Ent := ⟨48, da (fun (x : ((Int × (List (Int × Int))) × Unit)) => s_l2Good F x.1) (fun (r : Bool) => (Enc.enc (r : Bool))), 0, false, selF []⟩
theorem p48 {F : Nat} {x0 : (Int × (List (Int × Int)))} {r : Bool} (h : s_l2Good F x0 = some r) : (e48 F).den [Enc.enc x0] = some (Enc.enc (r : Bool)) := da_put (f := fun (x : ((Int × (List (Int × Int))) × Unit)) => s_l2Good F x.1) (t := fun (r : Bool) => (Enc.enc (r : Bool))) (x0, ()) h
theorem o48 {D : Den} {σ : Sig} {F : Nat} (hF : Fits2 Try.prog D σ) (H : H48 D σ F) : (e48 F).Ok Try.prog := by
  refine ok_of (f := 48) (show unk 48 = 48 from rfl) (fun args r h => ?_) ⟨Try.f48, Try.func48, rfl, rfl⟩
  obtain ⟨⟨x0, _⟩, y, rfl, hy, rfl⟩ := da_open h
  exact contract_run hF (by kernel_rfl) Try.func48 rfl c48 (show 1 ≤ Try.f48.ntmps by decide) (t48 H x0 _ rfl hy)
/- loop.example/g01109/spec.l2Bits -/
def A56_2 : AC := (AC.cond (O.t 10) AC.skip (AC.exit 0))
def A56_4 : AC := (AC.cond (O.t 17) (AC.reg [.clr [20, 21]] [(I.mk (some 18) none false (X.v (A.mov (O.t 5)))), (I.mk (some 19) none false (X.v (A.mov (O.t 6)))), (I.mk (some 20) none false (X.lit (V.int IntKind.i64 (Int.ofNat 0)) 1 [(0, 0, (O.t 19))])), (I.mk (some 21) none false (X.app Sh.s (O.t 18) (O.t 20))), (I.mk (some 5) none false (X.v (A.mov (O.t 21))))] [.home 21 5]) AC.skip)
def A56_5 : AC := (AC.reg [] [(I.mk (some 11) none false (X.v (A.mov (O.t 6)))), (I.mk (some 12) none false (X.v (A.bin BinOp.add (O.t 11) (O.k (V.int IntKind.i64 (Int.ofNat 1)))))), (I.mk (some 6) none false (X.v (A.mov (O.t 12))))] [])
def A56_3 : AC := (AC.seq (AC.block 1 (AC.seq (AC.reg [] [(I.mk (some 13) none false (X.v (A.mov (O.t 1)))), (I.mk (some 14) none false (X.v (A.mov (O.t 6)))), (I.mk (some 15) none false (X.v (A.bin BinOp.shr (O.t 13) (O.t 14)))), (I.mk (some 16) none false (X.v (A.bin BinOp.and (O.t 15) (O.k (V.int IntKind.i64 (Int.ofNat 1)))))), (I.mk (some 17) none false (X.v (A.bin BinOp.eql (O.t 16) (O.k (V.int IntKind.i64 (Int.ofNat 1))))))] []) A56_4)) A56_5)
def A56_1 : AC := (AC.seq (AC.seq (AC.reg [] [(I.mk (some 8) none false (X.v (A.mov (O.t 6)))), (I.mk (some 9) none false (X.v (A.mov (O.t 0)))), (I.mk (some 10) none false (X.v (A.bin BinOp.lss (O.t 8) (O.t 9))))] []) A56_2) A56_3)
def A56_6 : AC := (AC.seq (AC.reg [] [(I.mk (some 22) none false (X.v (A.mov (O.t 5)))), (I.mk (some 4) none false (X.v (A.mov (O.t 22))))] [.home 5 4]) AC.ret)
def A56_9 : AC := (AC.block 0 (AC.loop A56_1))
def A56_8 : AC := (AC.seq (AC.seq (AC.reg [] [(I.mk (some 6) none false (X.v (A.mov (O.k (V.int IntKind.i64 (Int.ofNat 0))))))] []) A56_9) A56_6)
def A56_7 : AC := (AC.seq (AC.reg [.clr [7]] [(I.mk (some 7) none false (X.lit (V.int IntKind.i64 (Int.ofNat 0)) 0 [])), (I.mk (some 5) none false (X.v (A.mov (O.t 7))))] [.home 7 5]) A56_8)
def A56 : AC := (AC.seq (AC.reg [] [(I.mk (some 4) none false (X.v (A.mov (O.k (V.sl Tok.nl Sh.s 0 [])))))] []) A56_7)
def an56 : List An := [{ id := 1, pre := [.clr [7]], ep := [.home 7 5], lin := [], sp := [] }, { id := 6, pre := [.clr [20, 21]], ep := [.home 21 5], lin := [], sp := [] }, { id := 7, pre := [], ep := [.home 5 4], lin := [], sp := [] }]
theorem c56 : cC Try.prog Try.f56.ntmps an56 (Try.f56.body.getD .skip) = some A56 := by kernel_rfl
structure H56 (D : Den) (σ : Sig) (F : Nat) : Prop where
  mk ::
abbrev R56 (r : (List Int)) : (Nat → V) → Prop := RR Try.prog [.tmp 4] 0 false (Enc.enc (r : (List Int)))
section
variable {D : Den} {σ : Sig} {F : Nat} {r : (List Int)}
def s_l2Bits_j1 (F : Nat) (n_1 : Int) (code_2 : Int) (x_8 : Int) (c1 : (List Int) → Int → Option (List Int)) (out_15 : (List Int)) : Option (List Int) :=
  c1 out_15 (w64 (x_8 + 1))
theorem t_f56_j1 (H : H56 D σ F) (n_1 : Int) (code_2 : Int) (x_8 : Int) (c1 : (List Int) → Int → Option (List Int)) (Hc1 : ∀ (out_7 : (List Int)) (x_8 : Int) (s : Nat → V), Facts [(0, (.int .i64 n_1)), (1, (.int .i64 code_2)), (4, (.sl .nl (Enc.shp Int) 0 [])), (5, (encO (.at 5 []) (.of (out_7 : List Int)))), (6, (.int .i64 x_8))] s → c1 out_7 x_8 = some r → Run D σ (R56 r) (.run A56_1 [.lp A56_1, .bk 0, .sq A56_6]) s) (out_15 : (List Int)) (s : Nat → V) (hs : Facts [(0, (.int .i64 n_1)), (1, (.int .i64 code_2)), (4, (.sl .nl (Enc.shp Int) 0 [])), (5, (encO (.at 5 []) (.of (out_15 : List Int)))), (6, (.int .i64 x_8))] s) (h : s_l2Bits_j1 F n_1 code_2 x_8 c1 out_15 = some r) : Run D σ (R56 r) (.nrm [.bk 1, .sq A56_5, .lp A56_1, .bk 0, .sq A56_6]) s := by
  unfold s_l2Bits_j1 at h
  obtain ⟨h0, h1, h4, h5, h6⟩ := hs
  refine .nbk ?_
  refine .nsq ?_
  refine run_reg ?_
  refine e_end ?_
  refine g_v1 (t := 6) (u := (.int .i64 x_8)) (.int .i64 x_8) h6 rfl rfl ?_
  refine g_v1 (t := 11) (u := (.int .i64 x_8)) (.int .i64 (w64 (x_8 + 1))) rfl rfl rfl ?_
  refine g_v1 (t := 12) (u := (.int .i64 (w64 (x_8 + 1)))) (.int .i64 (w64 (x_8 + 1))) rfl rfl rfl ?_
  refine g_end ?_
  refine e_end ?_
  refine renew [(0, (.int .i64 n_1)), (1, (.int .i64 code_2)), (4, (.sl .nl (Enc.shp Int) 0 [])), (5, (encO (.at 5 []) (.of (out_15 : List Int)))), (6, (.int .i64 (w64 (x_8 + 1))))] ⟨h0, h1, h4, h5, rfl⟩ ?_
  rintro s ⟨h0, h1, h4, h5, h6⟩
  refine .nlp ?_
  exact Hc1 out_15 (w64 (x_8 + 1)) _ ⟨h0, h1, h4, h5, h6⟩ h
def s_l2Bits_l1 (F : Nat) (n_1 : Int) (code_2 : Int)  : Nat → (List Int) → Int → Option (List Int)
  | 0, _, _ => none
  | k + 1, out_7, x_8 =>
    bif decide (x_8 < n_1) then
      (shrI .i64 code_2 x_8).bind fun q_13 =>
      bif ((iand .i64 q_13 1) == 1) then
        (appL out_7 [x_8]).bind fun ap_16 =>
        s_l2Bits_j1 F n_1 code_2 x_8 (s_l2Bits_l1 F n_1 code_2 k) ap_16
      else
        s_l2Bits_j1 F n_1 code_2 x_8 (s_l2Bits_l1 F n_1 code_2 k) out_7
    else
      some out_7
theorem t_f56_l1 (H : H56 D σ F) (n_1 : Int) (code_2 : Int)  : ∀ (k : Nat) (out_7 : (List Int)) (x_8 : Int) (s : Nat → V), Facts [(0, (.int .i64 n_1)), (1, (.int .i64 code_2)), (4, (.sl .nl (Enc.shp Int) 0 [])), (5, (encO (.at 5 []) (.of (out_7 : List Int)))), (6, (.int .i64 x_8))] s → s_l2Bits_l1 F n_1 code_2 k out_7 x_8 = some r → Run D σ (R56 r) (.run A56_1 [.lp A56_1, .bk 0, .sq A56_6]) s := by
  intro k
  induction k with
  | zero => intro out_7 x_8 s _ h; exact nomatch (h : (none : Option _) = some r)
  | succ k ih =>
    intro out_7 x_8 s hs h
    rw [s_l2Bits_l1] at h
    obtain ⟨h0, h1, h4, h5, h6⟩ := hs
    refine .seq ?_
    refine .seq ?_
    refine run_reg ?_
    refine e_end ?_
    refine g_v1 (t := 6) (u := (.int .i64 x_8)) (.int .i64 x_8) h6 rfl rfl ?_
    refine g_v1 (t := 0) (u := (.int .i64 n_1)) (.int .i64 n_1) h0 rfl rfl ?_
    refine g_v2 (t1 := 8) (t2 := 9) (u1 := (.int .i64 x_8)) (u2 := (.int .i64 n_1)) (.bool (decide (x_8 < n_1))) rfl rfl rfl rfl ?_
    refine g_end ?_
    refine e_end ?_
    refine renew [(0, (.int .i64 n_1)), (1, (.int .i64 code_2)), (4, (.sl .nl (Enc.shp Int) 0 [])), (5, (encO (.at 5 []) (.of (out_7 : List Int)))), (6, (.int .i64 x_8)), (10, (.bool (decide (x_8 < n_1))))] ⟨h0, h1, h4, h5, h6, rfl⟩ ?_
    rintro s ⟨h0, h1, h4, h5, h6, h10⟩
    refine .nsq ?_
    refine run_cond (t := decide (x_8 < n_1)) h10 h (fun h => ?_) (fun h => ?_)
    · refine .skip ?_
      refine .nsq ?_
      refine .seq ?_
      refine .block ?_
      refine .seq ?_
      refine run_reg ?_
      refine e_end ?_
      refine g_v1 (t := 1) (u := (.int .i64 code_2)) (.int .i64 code_2) h1 rfl rfl ?_
      refine g_v1 (t := 6) (u := (.int .i64 x_8)) (.int .i64 x_8) h6 rfl rfl ?_
      obtain ⟨q_13, E_q_13, h⟩ := bind_some h
      refine g_v (.int .i64 q_13) (ev_shr rfl rfl E_q_13) ?_
      refine g_v1 (t := 15) (u := (.int .i64 q_13)) (.int .i64 (iand .i64 q_13 1)) rfl rfl rfl ?_
      refine g_v1 (t := 16) (u := (.int .i64 (iand .i64 q_13 1))) (.bool ((iand .i64 q_13 1) == 1)) rfl rfl rfl ?_
      refine g_end ?_
      refine e_end ?_
      refine renew [(0, (.int .i64 n_1)), (1, (.int .i64 code_2)), (4, (.sl .nl (Enc.shp Int) 0 [])), (5, (encO (.at 5 []) (.of (out_7 : List Int)))), (6, (.int .i64 x_8)), (17, (.bool ((iand .i64 q_13 1) == 1)))] ⟨h0, h1, h4, h5, h6, rfl⟩ ?_
      rintro s ⟨h0, h1, h4, h5, h6, h17⟩
      refine .nsq ?_
      refine run_cond (t := ((iand .i64 q_13 1) == 1)) h17 h (fun h => ?_) (fun h => ?_)
      · refine run_reg ?_
        refine e_clr ?_
        refine e_end ?_
        refine g_v1 (t := 5) (u := (encO (.at 5 []) (.of (out_7 : List Int)))) (encO (.at 5 []) (.of (out_7 : List Int))) (keep_clear (s := s) (pk := [20, 21]) h5 rfl (map_encO (r := 5) (p := []) rfl rfl)) rfl rfl ?_
        refine g_v1 (t := 6) (u := (.int .i64 x_8)) (.int .i64 x_8) (keep_clear (s := s) (pk := [20, 21]) h6 rfl rfl) rfl rfl ?_
        refine g_litL [(19, (.int .i64 x_8))] [Enc.enc (x_8 : Int)] rfl rfl rfl (gone_clear (s := s) (pk := [20, 21]) (t := 20) rfl) ?_
        obtain ⟨ap_16, E_ap_16, h⟩ := bind_some h
        refine g_app (q := 5) (p := []) (o := (.of (out_7 : List Int))) (ys := ([x_8] : List Int)) (t2 := (.at 20 [])) (lo2 := 0) rfl rfl rfl (gone_clear (s := s) (pk := [20, 21]) (t := 21) rfl) (appN_L (o := (.of (out_7 : List Int))) E_ap_16 trivial) (fun s_19 ha_19 => ?_)
        refine g_v1 (t := 21) (u := (encO (.at 21 []) (.of (ap_16 : List Int)))) (encO (.at 21 []) (.of (ap_16 : List Int))) rfl rfl rfl ?_
        refine g_end ?_
        refine e_home (r := 21) (x := 5) (v := (encO (.at 21 []) (.of (ap_16 : List Int)))) (by exact rfl) rfl (fun s_20 hg_20 => ?_)
        refine e_end ?_
        refine renew [(0, (.int .i64 n_1)), (1, (.int .i64 code_2)), (4, (.sl .nl (Enc.shp Int) 0 [])), (5, (encO (.at 5 []) (.of (ap_16 : List Int)))), (6, (.int .i64 x_8))] ⟨(hg_20 0 (.int .i64 n_1) (.int .i64 n_1) (show s_19 0 = (.int .i64 n_1) from keep_app ha_19 (keep_clear (s := s) (pk := [20, 21]) h0 rfl rfl) rfl) rfl), (hg_20 1 (.int .i64 code_2) (.int .i64 code_2) (show s_19 1 = (.int .i64 code_2) from keep_app ha_19 (keep_clear (s := s) (pk := [20, 21]) h1 rfl rfl) rfl) rfl), (hg_20 4 (.sl .nl (Enc.shp Int) 0 []) (.sl .nl (Enc.shp Int) 0 []) (show s_19 4 = (.sl .nl (Enc.shp Int) 0 []) from keep_app ha_19 (keep_clear (s := s) (pk := [20, 21]) h4 rfl rfl) rfl) rfl), (hg_20 5 (encO (.at 21 []) (.of (ap_16 : List Int))) (encO (.at 5 []) (.of (ap_16 : List Int))) rfl (map_encO (r := 21) (p := []) rfl rfl)), (hg_20 6 (.int .i64 x_8) (.int .i64 x_8) (show s_19 6 = (.int .i64 x_8) from keep_app ha_19 (keep_clear (s := s) (pk := [20, 21]) h6 rfl rfl) rfl) rfl)⟩ ?_
        rintro s ⟨h0, h1, h4, h5, h6⟩
        exact t_f56_j1 H n_1 code_2 x_8 (s_l2Bits_l1 F n_1 code_2 k) ih ap_16 _ ⟨h0, h1, h4, h5, h6⟩ h
      · refine .skip ?_
        exact t_f56_j1 H n_1 code_2 x_8 (s_l2Bits_l1 F n_1 code_2 k) ih out_7 _ ⟨h0, h1, h4, h5, h6⟩ h
    · refine .exit ?_
      refine .esq ?_
      refine .elp ?_
      refine .ebk ?_
      refine .nsq ?_
      refine .seq ?_
      refine run_reg ?_
      refine e_end ?_
      refine g_v1 (t := 5) (u := (encO (.at 5 []) (.of (out_7 : List Int)))) (encO (.at 5 []) (.of (out_7 : List Int))) h5 rfl rfl ?_
      refine g_v1 (t := 22) (u := (encO (.at 5 []) (.of (out_7 : List Int)))) (encO (.at 5 []) (.of (out_7 : List Int))) rfl rfl rfl ?_
      refine g_end ?_
      refine e_home (r := 5) (x := 4) (v := (encO (.at 5 []) (.of (out_7 : List Int)))) (by exact rfl) rfl (fun s_21 hg_21 => ?_)
      refine e_end ?_
      refine renew [(4, (encO (.at 4 []) (.of (out_7 : List Int))))] (hg_21 4 (encO (.at 5 []) (.of (out_7 : List Int))) (encO (.at 4 []) (.of (out_7 : List Int))) rfl (map_encO (r := 5) (p := []) rfl rfl)) ?_
      rintro s h4
      refine .nsq ?_
      refine .ret ?_
      have hr := Option.some.inj h
      subst hr
      exact rrA (res_tmp h4) (fin_retF (fin_own (o := .of out_7)) (mine_own rfl))
def s_l2Bits (F : Nat) (n_1 : Int) (code_2 : Int) : Option (List Int) :=
  s_l2Bits_l1 F n_1 code_2 F [] 0
theorem t56 (H : H56 D σ F) (n_1 : Int) (code_2 : Int) (s : Nat → V) (hs : Facts [(0, (.int .i64 n_1)), (1, (.int .i64 code_2))] s) (h : s_l2Bits F n_1 code_2 = some r) : Run D σ (R56 r) (.run A56 []) s := by
  unfold s_l2Bits at h
  obtain ⟨h0, h1⟩ := hs
  refine .seq ?_
  refine run_reg ?_
  refine e_end ?_
  refine g_v0 (.sl .nl (Enc.shp Int) 0 []) rfl rfl ?_
  refine g_end ?_
  refine e_end ?_
  refine renew [(0, (.int .i64 n_1)), (1, (.int .i64 code_2)), (4, (.sl .nl (Enc.shp Int) 0 []))] ⟨h0, h1, rfl⟩ ?_
  rintro s ⟨h0, h1, h4⟩
  refine .nsq ?_
  refine .seq ?_
  refine run_reg ?_
  refine e_clr ?_
  refine e_end ?_
  refine g_litL [] [] trivial rfl rfl (gone_clear (s := s) (pk := [7]) (t := 7) rfl) ?_
  refine g_v1 (t := 7) (u := (encO (.at 7 []) (.of ([] : List Int)))) (encO (.at 7 []) (.of ([] : List Int))) rfl rfl rfl ?_
  refine g_end ?_
  refine e_home (r := 7) (x := 5) (v := (encO (.at 7 []) (.of ([] : List Int)))) (by exact rfl) rfl (fun s_2 hg_2 => ?_)
  refine e_end ?_
  refine renew [(0, (.int .i64 n_1)), (1, (.int .i64 code_2)), (4, (.sl .nl (Enc.shp Int) 0 [])), (5, (encO (.at 5 []) (.of ([] : List Int))))] ⟨(hg_2 0 (.int .i64 n_1) (.int .i64 n_1) (keep_clear (s := s) (pk := [7]) h0 rfl rfl) rfl), (hg_2 1 (.int .i64 code_2) (.int .i64 code_2) (keep_clear (s := s) (pk := [7]) h1 rfl rfl) rfl), (hg_2 4 (.sl .nl (Enc.shp Int) 0 []) (.sl .nl (Enc.shp Int) 0 []) (keep_clear (s := s) (pk := [7]) h4 rfl rfl) rfl), (hg_2 5 (encO (.at 7 []) (.of ([] : List Int))) (encO (.at 5 []) (.of ([] : List Int))) rfl (map_encO (r := 7) (p := []) rfl rfl))⟩ ?_
  rintro s ⟨h0, h1, h4, h5⟩
  refine .nsq ?_
  refine .seq ?_
  refine .seq ?_
  refine run_reg ?_
  refine e_end ?_
  refine g_v0 (.int .i64 0) rfl rfl ?_
  refine g_end ?_
  refine e_end ?_
  refine renew [(0, (.int .i64 n_1)), (1, (.int .i64 code_2)), (4, (.sl .nl (Enc.shp Int) 0 [])), (5, (encO (.at 5 []) (.of ([] : List Int)))), (6, (.int .i64 0))] ⟨h0, h1, h4, h5, rfl⟩ ?_
  rintro s ⟨h0, h1, h4, h5, h6⟩
  refine .nsq ?_
  refine .block ?_
  refine .loop ?_
  exact t_f56_l1 H n_1 code_2 F [] 0 _ ⟨h0, h1, h4, h5, h6⟩ h
end
def e56 (F : Nat) : Ent := ⟨56, da (fun (x : (Int × Int × Unit)) => s_l2Bits F x.1 x.2.1) (fun (r : (List Int)) => (Enc.enc (r : (List Int)))), 0, false, selF []⟩
theorem p56 {F : Nat} {x0 : Int} {x1 : Int} {r : (List Int)} (h : s_l2Bits F x0 x1 = some r) : (e56 F).den [Enc.enc x0, Enc.enc x1] = some (Enc.enc (r : (List Int))) := da_put (f := fun (x : (Int × Int × Unit)) => s_l2Bits F x.1 x.2.1) (t := fun (r : (List Int)) => (Enc.enc (r : (List Int)))) (x0, x1, ()) h
theorem o56 {D : Den} {σ : Sig} {F : Nat} (hF : Fits2 Try.prog D σ) (H : H56 D σ F) : (e56 F).Ok Try.prog := by
  refine ok_of (f := 56) (show unk 56 = 56 from rfl) (fun args r h => ?_) ⟨Try.f56, Try.func56, rfl, rfl⟩
  obtain ⟨⟨x0, x1, _⟩, y, rfl, hy, rfl⟩ := da_open h
  exact contract_run hF (by kernel_rfl) Try.func56 rfl c56 (show 2 ≤ Try.f56.ntmps by decide) (t56 H x0 x1 _ ⟨rfl, rfl⟩ hy)
/- loop.example/g01109/spec.l1Has -/
def A68_2 : AC := (AC.cond (O.t 9) AC.skip (AC.exit 0))
def A68_4 : AC := (AC.cond (O.t 17) (AC.seq (AC.reg [] [(I.mk (some 4) none false (X.v (A.mov (O.k (V.bool true)))))] []) AC.ret) AC.skip)
def A68_5 : AC := (AC.reg [] [(I.mk (some 10) none false (X.v (A.mov (O.t 5)))), (I.mk (some 11) none false (X.v (A.bin BinOp.add (O.t 10) (O.k (V.int IntKind.i64 (Int.ofNat 1)))))), (I.mk (some 5) none false (X.v (A.mov (O.t 11))))] [])
def A68_3 : AC := (AC.seq (AC.block 1 (AC.seq (AC.reg [] [(I.mk (some 12) none false (X.v (A.mov (O.t 0)))), (I.mk (some 13) none false (X.v (A.mov (O.t 5)))), (I.mk (some 14) none false (X.v (A.idx (O.t 12) (O.t 13) 1))), (I.mk (some 15) none false (X.v (A.load Sh.s (O.t 14)))), (I.mk (some 16) none false (X.v (A.mov (O.t 1)))), (I.mk (some 17) none false (X.v (A.bin BinOp.eql (O.t 15) (O.t 16))))] []) A68_4)) A68_5)
def A68_1 : AC := (AC.seq (AC.seq (AC.reg [] [(I.mk (some 6) none false (X.v (A.mov (O.t 5)))), (I.mk (some 7) none false (X.v (A.mov (O.t 0)))), (I.mk (some 8) none false (X.v (A.len (O.t 7)))), (I.mk (some 9) none false (X.v (A.bin BinOp.lss (O.t 6) (O.t 8))))] []) A68_2) A68_3)
def A68_6 : AC := (AC.seq (AC.reg [] [(I.mk (some 4) none false (X.v (A.mov (O.k (V.bool false)))))] []) AC.ret)
def A68_8 : AC := (AC.block 0 (AC.loop A68_1))
def A68_7 : AC := (AC.seq (AC.seq (AC.reg [] [(I.mk (some 5) none false (X.v (A.mov (O.k (V.int IntKind.i64 (Int.ofNat 0))))))] []) A68_8) A68_6)
def A68 : AC := (AC.seq (AC.reg [] [(I.mk (some 4) none false (X.v (A.mov (O.k (V.bool false)))))] []) A68_7)
def an68 : List An := []
theorem c68 : cC Try.prog Try.f68.ntmps an68 (Try.f68.body.getD .skip) = some A68 := by kernel_rfl
structure H68 (D : Den) (σ : Sig) (F : Nat) : Prop where
  mk ::
abbrev R68 (r : Bool) : (Nat → V) → Prop := RR Try.prog [.tmp 4] 0 false (Enc.enc (r : Bool))
section
variable {D : Den} {σ : Sig} {F : Nat} {r : Bool}
def s_l1Has_l1 (F : Nat) (l_1 : (List Int)) (n_2 : Int)  : Nat → Int → Option Bool
  | 0, _ => none
  | k + 1, i_4 =>
    bif decide (i_4 < (l_1.length : Int)) then
      (idx l_1 i_4).bind fun e_6 =>
      bif (e_6 == n_2) then
        some true
      else
        (s_l1Has_l1 F l_1 n_2 k) (w64 (i_4 + 1))
    else
      some false
theorem t_f68_l1 (H : H68 D σ F) (l_1 : (List Int)) (n_2 : Int)  : ∀ (k : Nat) (i_4 : Int) (s : Nat → V), Facts [(0, (Enc.enc (l_1 : List Int))), (1, (.int .i64 n_2)), (4, (.bool false)), (5, (.int .i64 i_4))] s → s_l1Has_l1 F l_1 n_2 k i_4 = some r → Run D σ (R68 r) (.run A68_1 [.lp A68_1, .bk 0, .sq A68_6]) s := by
  intro k
  induction k with
  | zero => intro i_4 s _ h; exact nomatch (h : (none : Option _) = some r)
  | succ k ih =>
    intro i_4 s hs h
    rw [s_l1Has_l1] at h
    obtain ⟨h0, h1, h4, h5⟩ := hs
    refine .seq ?_
    refine .seq ?_
    refine run_reg ?_
    refine e_end ?_
    refine g_v1 (t := 5) (u := (.int .i64 i_4)) (.int .i64 i_4) h5 rfl rfl ?_
    refine g_v1 (t := 0) (u := (Enc.enc (l_1 : List Int))) (Enc.enc (l_1 : List Int)) h0 rfl rfl ?_
    refine g_v (.int .i64 (l_1.length : Int)) (ev_len (xs := l_1) rfl) ?_
    refine g_v2 (t1 := 6) (t2 := 8) (u1 := (.int .i64 i_4)) (u2 := (.int .i64 (l_1.length : Int))) (.bool (decide (i_4 < (l_1.length : Int)))) rfl rfl rfl rfl ?_
    refine g_end ?_
    refine e_end ?_
    refine renew [(0, (Enc.enc (l_1 : List Int))), (1, (.int .i64 n_2)), (4, (.bool false)), (5, (.int .i64 i_4)), (9, (.bool (decide (i_4 < (l_1.length : Int)))))] ⟨h0, h1, h4, h5, rfl⟩ ?_
    rintro s ⟨h0, h1, h4, h5, h9⟩
    refine .nsq ?_
    refine run_cond (t := decide (i_4 < (l_1.length : Int))) h9 h (fun h => ?_) (fun h => ?_)
    · refine .skip ?_
      refine .nsq ?_
      refine .seq ?_
      refine .block ?_
      refine .seq ?_
      refine run_reg ?_
      refine e_end ?_
      refine g_v1 (t := 0) (u := (Enc.enc (l_1 : List Int))) (Enc.enc (l_1 : List Int)) h0 rfl rfl ?_
      refine g_v1 (t := 5) (u := (.int .i64 i_4)) (.int .i64 i_4) h5 rfl rfl ?_
      obtain ⟨e_6, E_e_6, h⟩ := bind_some h
      refine g_v (.ref .sh 0 [] (.int .i64 e_6)) (ev_idx (t := .sh) (lo := 0) (xs := l_1) rfl rfl E_e_6 rfl rfl) ?_
      refine g_v1 (t := 14) (u := (.ref .sh 0 [] (.int .i64 e_6))) (.int .i64 e_6) rfl rfl rfl ?_
      refine g_v1 (t := 1) (u := (.int .i64 n_2)) (.int .i64 n_2) h1 rfl rfl ?_
      refine g_v2 (t1 := 15) (t2 := 16) (u1 := (.int .i64 e_6)) (u2 := (.int .i64 n_2)) (.bool (e_6 == n_2)) rfl rfl rfl rfl ?_
      refine g_end ?_
      refine e_end ?_
      refine renew [(0, (Enc.enc (l_1 : List Int))), (1, (.int .i64 n_2)), (4, (.bool false)), (5, (.int .i64 i_4)), (17, (.bool (e_6 == n_2)))] ⟨h0, h1, h4, h5, rfl⟩ ?_
      rintro s ⟨h0, h1, h4, h5, h17⟩
      refine .nsq ?_
      refine run_cond (t := (e_6 == n_2)) h17 h (fun h => ?_) (fun h => ?_)
      · refine .seq ?_
        refine run_reg ?_
        refine e_end ?_
        refine g_v0 (.bool true) rfl rfl ?_
        refine g_end ?_
        refine e_end ?_
        refine renew [(0, (Enc.enc (l_1 : List Int))), (1, (.int .i64 n_2)), (4, (.bool true)), (5, (.int .i64 i_4))] ⟨h0, h1, rfl, h5⟩ ?_
        rintro s ⟨h0, h1, h4, h5⟩
        refine .nsq ?_
        refine .ret ?_
        have hr := Option.some.inj h
        subst hr
        exact rrA (res_tmp h4) rfl
      · refine .skip ?_
        refine .nbk ?_
        refine .nsq ?_
        refine run_reg ?_
        refine e_end ?_
        refine g_v1 (t := 5) (u := (.int .i64 i_4)) (.int .i64 i_4) h5 rfl rfl ?_
        refine g_v1 (t := 10) (u := (.int .i64 i_4)) (.int .i64 (w64 (i_4 + 1))) rfl rfl rfl ?_
        refine g_v1 (t := 11) (u := (.int .i64 (w64 (i_4 + 1)))) (.int .i64 (w64 (i_4 + 1))) rfl rfl rfl ?_
        refine g_end ?_
        refine e_end ?_
        refine renew [(0, (Enc.enc (l_1 : List Int))), (1, (.int .i64 n_2)), (4, (.bool false)), (5, (.int .i64 (w64 (i_4 + 1))))] ⟨h0, h1, h4, rfl⟩ ?_
        rintro s ⟨h0, h1, h4, h5⟩
        refine .nlp ?_
        exact ih (w64 (i_4 + 1)) _ ⟨h0, h1, h4, h5⟩ h
    · refine .exit ?_
      refine .esq ?_
      refine .elp ?_
      refine .ebk ?_
      refine .nsq ?_
      refine .seq ?_
      refine run_reg ?_
      refine e_end ?_
      refine g_v0 (.bool false) rfl rfl ?_
      refine g_end ?_
      refine e_end ?_
      refine renew [(4, (.bool false))] rfl ?_
      rintro s h4
      refine .nsq ?_
      refine .ret ?_
      have hr := Option.some.inj h
      subst hr
      exact rrA (res_tmp h4) rfl
def s_l1Has (F : Nat) (l_1 : (List Int)) (n_2 : Int) : Option Bool :=
  s_l1Has_l1 F l_1 n_2 F 0
theorem t68 (H : H68 D σ F) (l_1 : (List Int)) (n_2 : Int) (s : Nat → V) (hs : Facts [(0, (Enc.enc (l_1 : List Int))), (1, (.int .i64 n_2))] s) (h : s_l1Has F l_1 n_2 = some r) : Run D σ (R68 r) (.run A68 []) s := by
  unfold s_l1Has at h
  obtain ⟨h0, h1⟩ := hs
  refine .seq ?_
  refine run_reg ?_
  refine e_end ?_
  refine g_v0 (.bool false) rfl rfl ?_
  refine g_end ?_
  refine e_end ?_
  refine renew [(0, (Enc.enc (l_1 : List Int))), (1, (.int .i64 n_2)), (4, (.bool false))] ⟨h0, h1, rfl⟩ ?_
  rintro s ⟨h0, h1, h4⟩
  refine .nsq ?_
  refine .seq ?_
  refine .seq ?_
  refine run_reg ?_
  refine e_end ?_
  refine g_v0 (.int .i64 0) rfl rfl ?_
  refine g_end ?_
  refine e_end ?_
  refine renew [(0, (Enc.enc (l_1 : List Int))), (1, (.int .i64 n_2)), (4, (.bool false)), (5, (.int .i64 0))] ⟨h0, h1, h4, rfl⟩ ?_
  rintro s ⟨h0, h1, h4, h5⟩
  refine .nsq ?_
  refine .block ?_
  refine .loop ?_
  exact t_f68_l1 H l_1 n_2 F 0 _ ⟨h0, h1, h4, h5⟩ h
end
def e68 (F : Nat) : Ent := ⟨68, da (fun (x : ((List Int) × Int × Unit)) => s_l1Has F x.1 x.2.1) (fun (r : Bool) => (Enc.enc (r : Bool))), 0, false, selF []⟩
theorem p68 {F : Nat} {x0 : (List Int)} {x1 : Int} {r : Bool} (h : s_l1Has F x0 x1 = some r) : (e68 F).den [Enc.enc x0, Enc.enc x1] = some (Enc.enc (r : Bool)) := da_put (f := fun (x : ((List Int) × Int × Unit)) => s_l1Has F x.1 x.2.1) (t := fun (r : Bool) => (Enc.enc (r : Bool))) (x0, x1, ()) h
theorem o68 {D : Den} {σ : Sig} {F : Nat} (hF : Fits2 Try.prog D σ) (H : H68 D σ F) : (e68 F).Ok Try.prog := by
  refine ok_of (f := 68) (show unk 68 = 68 from rfl) (fun args r h => ?_) ⟨Try.f68, Try.func68, rfl, rfl⟩
  obtain ⟨⟨x0, x1, _⟩, y, rfl, hy, rfl⟩ := da_open h
  exact contract_run hF (by kernel_rfl) Try.func68 rfl c68 (show 2 ≤ Try.f68.ntmps by decide) (t68 H x0 x1 _ ⟨rfl, rfl⟩ hy)
/- loop.example/g01109/spec.l7Cut -/
def A86_2 : AC := (AC.cond (O.t 11) AC.skip (AC.exit 0))
def A86_4 : AC := (AC.cond (O.t 30) (AC.reg [] [(I.mk (some 31) none false (X.v (A.mov (O.t 5)))), (I.mk (some 32) none false (X.v (A.bin BinOp.add (O.t 31) (O.k (V.int IntKind.i64 (Int.ofNat 1)))))), (I.mk (some 5) none false (X.v (A.mov (O.t 32))))] []) AC.skip)
def A86_5 : AC := (AC.reg [] [(I.mk (some 12) none false (X.v (A.mov (O.t 6)))), (I.mk (some 13) none false (X.v (A.bin BinOp.add (O.t 12) (O.k (V.int IntKind.i64 (Int.ofNat 1)))))), (I.mk (some 6) none false (X.v (A.mov (O.t 13))))] [])
def A86_3 : AC := (AC.seq (AC.block 1 (AC.seq (AC.reg [] [(I.mk (some 14) none false (X.v (A.mov (O.t 1)))), (I.mk (some 15) none false (X.v (A.fld (O.t 2) 1 1))), (I.mk (some 16) none false (X.v (A.load Sh.p (O.t 15)))), (I.mk (some 17) none false (X.v (A.mov (O.t 6)))), (I.mk (some 18) none false (X.v (A.idx (O.t 16) (O.t 17) 2))), (I.mk (some 19) none false (X.v (A.idxA (O.t 18) (O.k (V.int IntKind.i64 (Int.ofNat 0))) 2 1))), (I.mk (some 20) none false (X.v (A.load Sh.s (O.t 19)))), (I.mk (some 21) none false (X.call (O.k (V.fn 68 [] [])) [(O.t 14), (O.t 20)])), (I.mk (some 22) none false (X.v (A.mov (O.t 1)))), (I.mk (some 23) none false (X.v (A.fld (O.t 2) 1 1))), (I.mk (some 24) none false (X.v (A.load Sh.p (O.t 23)))), (I.mk (some 25) none false (X.v (A.mov (O.t 6)))), (I.mk (some 26) none false (X.v (A.idx (O.t 24) (O.t 25) 2))), (I.mk (some 27) none false (X.v (A.idxA (O.t 26) (O.k (V.int IntKind.i64 (Int.ofNat 1))) 2 1))), (I.mk (some 28) none false (X.v (A.load Sh.s (O.t 27)))), (I.mk (some 29) none false (X.call (O.k (V.fn 68 [] [])) [(O.t 22), (O.t 28)])), (I.mk (some 30) none false (X.v (A.beq true (O.t 21) (O.t 29))))] []) A86_4)) A86_5)
def A86_1 : AC := (AC.seq (AC.seq (AC.reg [] [(I.mk (some 7) none false (X.v (A.mov (O.t 6)))), (I.mk (some 8) none false (X.v (A.fld (O.t 2) 1 1))), (I.mk (some 9) none false (X.v (A.load Sh.p (O.t 8)))), (I.mk (some 10) none false (X.v (A.len (O.t 9)))), (I.mk (some 11) none false (X.v (A.bin BinOp.lss (O.t 7) (O.t 10))))] []) A86_2) A86_3)
def A86_6 : AC := (AC.seq (AC.reg [] [(I.mk (some 33) none false (X.v (A.mov (O.t 5)))), (I.mk (some 4) none false (X.v (A.mov (O.t 33))))] []) AC.ret)
def A86_9 : AC := (AC.block 0 (AC.loop A86_1))
def A86_8 : AC := (AC.seq (AC.seq (AC.reg [] [(I.mk (some 6) none false (X.v (A.mov (O.k (V.int IntKind.i64 (Int.ofNat 0))))))] []) A86_9) A86_6)
def A86_7 : AC := (AC.seq (AC.reg [] [(I.mk (some 5) none false (X.v (A.mov (O.k (V.int IntKind.i64 (Int.ofNat 0))))))] []) A86_8)
def A86 : AC := (AC.seq (AC.reg [.clr [2]] [(I.mk (some 2) none false (X.box (O.t 0))), (I.mk (some 4) none false (X.v (A.mov (O.k (V.int IntKind.i64 (Int.ofNat 0))))))] []) A86_7)
def an86 : List An := [{ id := 0, pre := [.clr [2]], ep := [], lin := [], sp := [] }]
theorem c86 : cC Try.prog Try.f86.ntmps an86 (Try.f86.body.getD .skip) = some A86 := by kernel_rfl
structure H86 (D : Den) (σ : Sig) (F : Nat) : Prop where
  c68 : ∀ (x0 : (List Int)) (x1 : Int) r, s_l1Has F x0 x1 = some r → D 68 [Enc.enc x0, Enc.enc x1] = some (Enc.enc (r : Bool))
  g68 : σ 68 = some (0, false)
abbrev R86 (r : Int) : (Nat → V) → Prop := RR Try.prog [.tmp 4] 0 false (Enc.enc (r : Int))
section
variable {D : Den} {σ : Sig} {F : Nat} {r : Int}
def s_l7Cut_j1 (F : Nat) (set_2 : (List Int)) (g_1 : (Int × (List (Int × Int)))) (i_9 : Int) (c1 : Int → Int → Option Int) (many_19 : Int) : Option Int :=
  c1 many_19 (w64 (i_9 + 1))
theorem t_f86_j1 (H : H86 D σ F) (set_2 : (List Int)) (g_1 : (Int × (List (Int × Int)))) (i_9 : Int) (c1 : Int → Int → Option Int) (Hc1 : ∀ (many_8 : Int) (i_9 : Int) (s : Nat → V), Facts [(1, (Enc.enc (set_2 : List Int))), (2, (.ref (.bx 2) 0 [] (.agg [(.int .i64 g_1.1), (Enc.enc (g_1.2 : List (Int × Int)))]))), (4, (.int .i64 0)), (5, (.int .i64 many_8)), (6, (.int .i64 i_9))] s → c1 many_8 i_9 = some r → Run D σ (R86 r) (.run A86_1 [.lp A86_1, .bk 0, .sq A86_6]) s) (many_19 : Int) (s : Nat → V) (hs : Facts [(1, (Enc.enc (set_2 : List Int))), (2, (.ref (.bx 2) 0 [] (.agg [(.int .i64 g_1.1), (Enc.enc (g_1.2 : List (Int × Int)))]))), (4, (.int .i64 0)), (5, (.int .i64 many_19)), (6, (.int .i64 i_9))] s) (h : s_l7Cut_j1 F set_2 g_1 i_9 c1 many_19 = some r) : Run D σ (R86 r) (.nrm [.bk 1, .sq A86_5, .lp A86_1, .bk 0, .sq A86_6]) s := by
  unfold s_l7Cut_j1 at h
  obtain ⟨h1, h2, h4, h5, h6⟩ := hs
  refine .nbk ?_
  refine .nsq ?_
  refine run_reg ?_
  refine e_end ?_
  refine g_v1 (t := 6) (u := (.int .i64 i_9)) (.int .i64 i_9) h6 rfl rfl ?_
  refine g_v1 (t := 12) (u := (.int .i64 i_9)) (.int .i64 (w64 (i_9 + 1))) rfl rfl rfl ?_
  refine g_v1 (t := 13) (u := (.int .i64 (w64 (i_9 + 1)))) (.int .i64 (w64 (i_9 + 1))) rfl rfl rfl ?_
  refine g_end ?_
  refine e_end ?_
  refine renew [(1, (Enc.enc (set_2 : List Int))), (2, (.ref (.bx 2) 0 [] (.agg [(.int .i64 g_1.1), (Enc.enc (g_1.2 : List (Int × Int)))]))), (4, (.int .i64 0)), (5, (.int .i64 many_19)), (6, (.int .i64 (w64 (i_9 + 1))))] ⟨h1, h2, h4, h5, rfl⟩ ?_
  rintro s ⟨h1, h2, h4, h5, h6⟩
  refine .nlp ?_
  exact Hc1 many_19 (w64 (i_9 + 1)) _ ⟨h1, h2, h4, h5, h6⟩ h
def s_l7Cut_l1 (F : Nat) (set_2 : (List Int)) (g_1 : (Int × (List (Int × Int))))  : Nat → Int → Int → Option Int
  | 0, _, _ => none
  | k + 1, many_8, i_9 =>
    bif decide (i_9 < (g_1.2.length : Int)) then
      (idx g_1.2 i_9).bind fun e_15 =>
      (s_l1Has F set_2 e_15.1).bind fun r_16 =>
      (idx g_1.2 i_9).bind fun e_17 =>
      (s_l1Has F set_2 e_17.2).bind fun r_18 =>
      bif (r_16 != r_18) then
        s_l7Cut_j1 F set_2 g_1 i_9 (s_l7Cut_l1 F set_2 g_1 k) (w64 (many_8 + 1))
      else
        s_l7Cut_j1 F set_2 g_1 i_9 (s_l7Cut_l1 F set_2 g_1 k) many_8
    else
      some many_8
theorem t_f86_l1 (H : H86 D σ F) (set_2 : (List Int)) (g_1 : (Int × (List (Int × Int))))  : ∀ (k : Nat) (many_8 : Int) (i_9 : Int) (s : Nat → V), Facts [(1, (Enc.enc (set_2 : List Int))), (2, (.ref (.bx 2) 0 [] (.agg [(.int .i64 g_1.1), (Enc.enc (g_1.2 : List (Int × Int)))]))), (4, (.int .i64 0)), (5, (.int .i64 many_8)), (6, (.int .i64 i_9))] s → s_l7Cut_l1 F set_2 g_1 k many_8 i_9 = some r → Run D σ (R86 r) (.run A86_1 [.lp A86_1, .bk 0, .sq A86_6]) s := by
  intro k
  induction k with
  | zero => intro many_8 i_9 s _ h; exact nomatch (h : (none : Option _) = some r)
  | succ k ih =>
    intro many_8 i_9 s hs h
    rw [s_l7Cut_l1] at h
    obtain ⟨h1, h2, h4, h5, h6⟩ := hs
    refine .seq ?_
    refine .seq ?_
    refine run_reg ?_
    refine e_end ?_
    refine g_v1 (t := 6) (u := (.int .i64 i_9)) (.int .i64 i_9) h6 rfl rfl ?_
    refine g_v1 (t := 2) (u := (.ref (.bx 2) 0 [] (.agg [(.int .i64 g_1.1), (Enc.enc (g_1.2 : List (Int × Int)))]))) (.ref (.bx 2) 0 [1] (Enc.enc (g_1.2 : List (Int × Int)))) h2 rfl rfl ?_
    refine g_v1 (t := 8) (u := (.ref (.bx 2) 0 [1] (Enc.enc (g_1.2 : List (Int × Int))))) (Enc.enc (g_1.2 : List (Int × Int))) rfl rfl rfl ?_
    refine g_v (.int .i64 (g_1.2.length : Int)) (ev_len (xs := g_1.2) rfl) ?_
    refine g_v2 (t1 := 7) (t2 := 10) (u1 := (.int .i64 i_9)) (u2 := (.int .i64 (g_1.2.length : Int))) (.bool (decide (i_9 < (g_1.2.length : Int)))) rfl rfl rfl rfl ?_
    refine g_end ?_
    refine e_end ?_
    refine renew [(1, (Enc.enc (set_2 : List Int))), (2, (.ref (.bx 2) 0 [] (.agg [(.int .i64 g_1.1), (Enc.enc (g_1.2 : List (Int × Int)))]))), (4, (.int .i64 0)), (5, (.int .i64 many_8)), (6, (.int .i64 i_9)), (11, (.bool (decide (i_9 < (g_1.2.length : Int)))))] ⟨h1, h2, h4, h5, h6, rfl⟩ ?_
    rintro s ⟨h1, h2, h4, h5, h6, h11⟩
    refine .nsq ?_
    refine run_cond (t := decide (i_9 < (g_1.2.length : Int))) h11 h (fun h => ?_) (fun h => ?_)
    · refine .skip ?_
      refine .nsq ?_
      refine .seq ?_
      refine .block ?_
      refine .seq ?_
      refine run_reg ?_
      refine e_end ?_
      refine g_v1 (t := 1) (u := (Enc.enc (set_2 : List Int))) (Enc.enc (set_2 : List Int)) h1 rfl rfl ?_
      refine g_v1 (t := 2) (u := (.ref (.bx 2) 0 [] (.agg [(.int .i64 g_1.1), (Enc.enc (g_1.2 : List (Int × Int)))]))) (.ref (.bx 2) 0 [1] (Enc.enc (g_1.2 : List (Int × Int)))) h2 rfl rfl ?_
      refine g_v1 (t := 15) (u := (.ref (.bx 2) 0 [1] (Enc.enc (g_1.2 : List (Int × Int))))) (Enc.enc (g_1.2 : List (Int × Int))) rfl rfl rfl ?_
      refine g_v1 (t := 6) (u := (.int .i64 i_9)) (.int .i64 i_9) h6 rfl rfl ?_
      obtain ⟨e_15, E_e_15, h⟩ := bind_some h
      refine g_v (.ref .sh 0 [] (.agg [(.int .i64 e_15.1), (.int .i64 e_15.2)])) (ev_idx (t := .sh) (lo := 0) (xs := g_1.2) rfl rfl E_e_15 rfl rfl) ?_
      refine g_v1 (t := 18) (u := (.ref .sh 0 [] (.agg [(.int .i64 e_15.1), (.int .i64 e_15.2)]))) (.ref .sh 0 [0] (.int .i64 e_15.1)) rfl rfl rfl ?_
      refine g_v1 (t := 19) (u := (.ref .sh 0 [0] (.int .i64 e_15.1))) (.int .i64 e_15.1) rfl rfl rfl ?_
      obtain ⟨r_16, E_r_16, h⟩ := bind_some h
      refine g_call (m := 0) (al := false) (r := (Enc.enc (r_16 : Bool))) [Enc.enc (set_2 : (List Int)), Enc.enc (e_15.1 : Int)] (ta_cons (v := (Enc.enc (set_2 : List Int))) rfl rfl (Enc.erase_enc (set_2 : (List Int))) (ta_cons (v := (.int .i64 e_15.1)) rfl rfl rfl ta_nil)) (H.c68 _ _ _ E_r_16) H.g68 rfl rfl rfl rfl ?_
      refine g_v1 (t := 1) (u := (Enc.enc (set_2 : List Int))) (Enc.enc (set_2 : List Int)) h1 rfl rfl ?_
      refine g_v1 (t := 2) (u := (.ref (.bx 2) 0 [] (.agg [(.int .i64 g_1.1), (Enc.enc (g_1.2 : List (Int × Int)))]))) (.ref (.bx 2) 0 [1] (Enc.enc (g_1.2 : List (Int × Int)))) h2 rfl rfl ?_
      refine g_v1 (t := 23) (u := (.ref (.bx 2) 0 [1] (Enc.enc (g_1.2 : List (Int × Int))))) (Enc.enc (g_1.2 : List (Int × Int))) rfl rfl rfl ?_
      refine g_v1 (t := 6) (u := (.int .i64 i_9)) (.int .i64 i_9) h6 rfl rfl ?_
      obtain ⟨e_17, E_e_17, h⟩ := bind_some h
      refine g_v (.ref .sh 0 [] (.agg [(.int .i64 e_17.1), (.int .i64 e_17.2)])) (ev_idx (t := .sh) (lo := 0) (xs := g_1.2) rfl rfl E_e_17 rfl rfl) ?_
      refine g_v1 (t := 26) (u := (.ref .sh 0 [] (.agg [(.int .i64 e_17.1), (.int .i64 e_17.2)]))) (.ref .sh 0 [1] (.int .i64 e_17.2)) rfl rfl rfl ?_
      refine g_v1 (t := 27) (u := (.ref .sh 0 [1] (.int .i64 e_17.2))) (.int .i64 e_17.2) rfl rfl rfl ?_
      obtain ⟨r_18, E_r_18, h⟩ := bind_some h
      refine g_call (m := 0) (al := false) (r := (Enc.enc (r_18 : Bool))) [Enc.enc (set_2 : (List Int)), Enc.enc (e_17.2 : Int)] (ta_cons (v := (Enc.enc (set_2 : List Int))) rfl rfl (Enc.erase_enc (set_2 : (List Int))) (ta_cons (v := (.int .i64 e_17.2)) rfl rfl rfl ta_nil)) (H.c68 _ _ _ E_r_18) H.g68 rfl rfl rfl rfl ?_
      refine g_v2 (t1 := 21) (t2 := 29) (u1 := (.bool r_16)) (u2 := (.bool r_18)) (.bool (r_16 != r_18)) rfl rfl rfl rfl ?_
      refine g_end ?_
      refine e_end ?_
      refine renew [(1, (Enc.enc (set_2 : List Int))), (2, (.ref (.bx 2) 0 [] (.agg [(.int .i64 g_1.1), (Enc.enc (g_1.2 : List (Int × Int)))]))), (4, (.int .i64 0)), (5, (.int .i64 many_8)), (6, (.int .i64 i_9)), (30, (.bool (r_16 != r_18)))] ⟨h1, h2, h4, h5, h6, rfl⟩ ?_
      rintro s ⟨h1, h2, h4, h5, h6, h30⟩
      refine .nsq ?_
      refine run_cond (t := (r_16 != r_18)) h30 h (fun h => ?_) (fun h => ?_)
      · refine run_reg ?_
        refine e_end ?_
        refine g_v1 (t := 5) (u := (.int .i64 many_8)) (.int .i64 many_8) h5 rfl rfl ?_
        refine g_v1 (t := 31) (u := (.int .i64 many_8)) (.int .i64 (w64 (many_8 + 1))) rfl rfl rfl ?_
        refine g_v1 (t := 32) (u := (.int .i64 (w64 (many_8 + 1)))) (.int .i64 (w64 (many_8 + 1))) rfl rfl rfl ?_
        refine g_end ?_
        refine e_end ?_
        refine renew [(1, (Enc.enc (set_2 : List Int))), (2, (.ref (.bx 2) 0 [] (.agg [(.int .i64 g_1.1), (Enc.enc (g_1.2 : List (Int × Int)))]))), (4, (.int .i64 0)), (5, (.int .i64 (w64 (many_8 + 1)))), (6, (.int .i64 i_9))] ⟨h1, h2, h4, rfl, h6⟩ ?_
        rintro s ⟨h1, h2, h4, h5, h6⟩
        exact t_f86_j1 H set_2 g_1 i_9 (s_l7Cut_l1 F set_2 g_1 k) ih (w64 (many_8 + 1)) _ ⟨h1, h2, h4, h5, h6⟩ h
      · refine .skip ?_
        exact t_f86_j1 H set_2 g_1 i_9 (s_l7Cut_l1 F set_2 g_1 k) ih many_8 _ ⟨h1, h2, h4, h5, h6⟩ h
    · refine .exit ?_
      refine .esq ?_
      refine .elp ?_
      refine .ebk ?_
      refine .nsq ?_
      refine .seq ?_
      refine run_reg ?_
      refine e_end ?_
      refine g_v1 (t := 5) (u := (.int .i64 many_8)) (.int .i64 many_8) h5 rfl rfl ?_
      refine g_v1 (t := 33) (u := (.int .i64 many_8)) (.int .i64 many_8) rfl rfl rfl ?_
      refine g_end ?_
      refine e_end ?_
      refine renew [(4, (.int .i64 many_8))] rfl ?_
      rintro s h4
      refine .nsq ?_
      refine .ret ?_
      have hr := Option.some.inj h
      subst hr
      exact rrA (res_tmp h4) rfl
def s_l7Cut (F : Nat) (g_1 : (Int × (List (Int × Int)))) (set_2 : (List Int)) : Option Int :=
  s_l7Cut_l1 F set_2 g_1 F 0 0
theorem t86 (H : H86 D σ F) (g_1 : (Int × (List (Int × Int)))) (set_2 : (List Int)) (s : Nat → V) (hs : Facts [(0, (.agg [(.int .i64 g_1.1), (Enc.enc (g_1.2 : List (Int × Int)))])), (1, (Enc.enc (set_2 : List Int)))] s) (h : s_l7Cut F g_1 set_2 = some r) : Run D σ (R86 r) (.run A86 []) s := by
  unfold s_l7Cut at h
  obtain ⟨h0, h1⟩ := hs
  refine .seq ?_
  refine run_reg ?_
  refine e_clr ?_
  refine e_end ?_
  refine g_box (.agg [(.int .i64 g_1.1), (Enc.enc (g_1.2 : List (Int × Int)))]) (rd_of (keep_clear (s := s) (pk := [2]) h0 rfl (map_agg (maps_cons rfl (maps_cons (Enc.map_enc _ (g_1.2 : List (Int × Int))) maps_nil)))) rfl) (gone_clear (s := s) (pk := [2]) (t := 2) rfl) rfl ?_
  refine g_v0 (.int .i64 0) rfl rfl ?_
  refine g_end ?_
  refine e_end ?_
  refine renew [(1, (Enc.enc (set_2 : List Int))), (2, (.ref (.bx 2) 0 [] (.agg [(.int .i64 g_1.1), (Enc.enc (g_1.2 : List (Int × Int)))]))), (4, (.int .i64 0))] ⟨(keep_clear (s := s) (pk := [2]) h1 rfl (Enc.map_enc _ (set_2 : List Int))), rfl, rfl⟩ ?_
  rintro s ⟨h1, h2, h4⟩
  refine .nsq ?_
  refine .seq ?_
  refine run_reg ?_
  refine e_end ?_
  refine g_v0 (.int .i64 0) rfl rfl ?_
  refine g_end ?_
  refine e_end ?_
  refine renew [(1, (Enc.enc (set_2 : List Int))), (2, (.ref (.bx 2) 0 [] (.agg [(.int .i64 g_1.1), (Enc.enc (g_1.2 : List (Int × Int)))]))), (4, (.int .i64 0)), (5, (.int .i64 0))] ⟨h1, h2, h4, rfl⟩ ?_
  rintro s ⟨h1, h2, h4, h5⟩
  refine .nsq ?_
  refine .seq ?_
  refine .seq ?_
  refine run_reg ?_
  refine e_end ?_
  refine g_v0 (.int .i64 0) rfl rfl ?_
  refine g_end ?_
  refine e_end ?_
  refine renew [(1, (Enc.enc (set_2 : List Int))), (2, (.ref (.bx 2) 0 [] (.agg [(.int .i64 g_1.1), (Enc.enc (g_1.2 : List (Int × Int)))]))), (4, (.int .i64 0)), (5, (.int .i64 0)), (6, (.int .i64 0))] ⟨h1, h2, h4, h5, rfl⟩ ?_
  rintro s ⟨h1, h2, h4, h5, h6⟩
  refine .nsq ?_
  refine .block ?_
  refine .loop ?_
  exact t_f86_l1 H set_2 g_1 F 0 0 _ ⟨h1, h2, h4, h5, h6⟩ h
end
def e86 (F : Nat) : Ent := ⟨86, da (fun (x : ((Int × (List (Int × Int))) × (List Int) × Unit)) => s_l7Cut F x.1 x.2.1) (fun (r : Int) => (Enc.enc (r : Int))), 0, false, selF []⟩
theorem p86 {F : Nat} {x0 : (Int × (List (Int × Int)))} {x1 : (List Int)} {r : Int} (h : s_l7Cut F x0 x1 = some r) : (e86 F).den [Enc.enc x0, Enc.enc x1] = some (Enc.enc (r : Int)) := da_put (f := fun (x : ((Int × (List (Int × Int))) × (List Int) × Unit)) => s_l7Cut F x.1 x.2.1) (t := fun (r : Int) => (Enc.enc (r : Int))) (x0, x1, ()) h
theorem o86 {D : Den} {σ : Sig} {F : Nat} (hF : Fits2 Try.prog D σ) (H : H86 D σ F) : (e86 F).Ok Try.prog := by
  refine ok_of (f := 86) (show unk 86 = 86 from rfl) (fun args r h => ?_) ⟨Try.f86, Try.func86, rfl, rfl⟩
  obtain ⟨⟨x0, x1, _⟩, y, rfl, hy, rfl⟩ := da_open h
  exact contract_run hF (by kernel_rfl) Try.func86 rfl c86 (show 2 ≤ Try.f86.ntmps by decide) (t86 H x0 x1 _ ⟨rfl, rfl⟩ hy)
/- loop.example/g01109/spec.l1Most -/
def A66_2 : AC := (AC.cond (O.t 7) (AC.seq (AC.reg [] [(I.mk (some 8) none false (X.v (A.mov (O.t 0)))), (I.mk (some 4) none false (X.v (A.mov (O.t 8))))] []) AC.ret) AC.skip)
def A66_3 : AC := (AC.seq (AC.reg [] [(I.mk (some 9) none false (X.v (A.mov (O.t 1)))), (I.mk (some 4) none false (X.v (A.mov (O.t 9))))] []) AC.ret)
def A66_1 : AC := (AC.seq (AC.seq (AC.reg [] [(I.mk (some 5) none false (X.v (A.mov (O.t 0)))), (I.mk (some 6) none false (X.v (A.mov (O.t 1)))), (I.mk (some 7) none false (X.v (A.bin BinOp.gtr (O.t 5) (O.t 6))))] []) A66_2) A66_3)
def A66 : AC := (AC.seq (AC.reg [] [(I.mk (some 4) none false (X.v (A.mov (O.k (V.int IntKind.i64 (Int.ofNat 0))))))] []) A66_1)
def an66 : List An := []
theorem c66 : cC Try.prog Try.f66.ntmps an66 (Try.f66.body.getD .skip) = some A66 := by kernel_rfl
structure H66 (D : Den) (σ : Sig) (F : Nat) : Prop where
  mk ::
abbrev R66 (r : Int) : (Nat → V) → Prop := RR Try.prog [.tmp 4] 0 false (Enc.enc (r : Int))
section
variable {D : Den} {σ : Sig} {F : Nat} {r : Int}
def s_l1Most (F : Nat) (a_1 : Int) (b_2 : Int) : Option Int :=
  bif decide (a_1 > b_2) then
    some a_1
  else
    some b_2
theorem t66 (H : H66 D σ F) (a_1 : Int) (b_2 : Int) (s : Nat → V) (hs : Facts [(0, (.int .i64 a_1)), (1, (.int .i64 b_2))] s) (h : s_l1Most F a_1 b_2 = some r) : Run D σ (R66 r) (.run A66 []) s := by
  unfold s_l1Most at h
  obtain ⟨h0, h1⟩ := hs
  refine .seq ?_
  refine run_reg ?_
  refine e_end ?_
  refine g_v0 (.int .i64 0) rfl rfl ?_
  refine g_end ?_
  refine e_end ?_
  refine renew [(0, (.int .i64 a_1)), (1, (.int .i64 b_2)), (4, (.int .i64 0))] ⟨h0, h1, rfl⟩ ?_
  rintro s ⟨h0, h1, h4⟩
  refine .nsq ?_
  refine .seq ?_
  refine .seq ?_
  refine run_reg ?_
  refine e_end ?_
  refine g_v1 (t := 0) (u := (.int .i64 a_1)) (.int .i64 a_1) h0 rfl rfl ?_
  refine g_v1 (t := 1) (u := (.int .i64 b_2)) (.int .i64 b_2) h1 rfl rfl ?_
  refine g_v2 (t1 := 5) (t2 := 6) (u1 := (.int .i64 a_1)) (u2 := (.int .i64 b_2)) (.bool (decide (a_1 > b_2))) rfl rfl rfl rfl ?_
  refine g_end ?_
  refine e_end ?_
  refine renew [(0, (.int .i64 a_1)), (1, (.int .i64 b_2)), (4, (.int .i64 0)), (7, (.bool (decide (a_1 > b_2))))] ⟨h0, h1, h4, rfl⟩ ?_
  rintro s ⟨h0, h1, h4, h7⟩
  refine .nsq ?_
  refine run_cond (t := decide (a_1 > b_2)) h7 h (fun h => ?_) (fun h => ?_)
  · refine .seq ?_
    refine run_reg ?_
    refine e_end ?_
    refine g_v1 (t := 0) (u := (.int .i64 a_1)) (.int .i64 a_1) h0 rfl rfl ?_
    refine g_v1 (t := 8) (u := (.int .i64 a_1)) (.int .i64 a_1) rfl rfl rfl ?_
    refine g_end ?_
    refine e_end ?_
    refine renew [(1, (.int .i64 b_2)), (4, (.int .i64 a_1))] ⟨h1, rfl⟩ ?_
    rintro s ⟨h1, h4⟩
    refine .nsq ?_
    refine .ret ?_
    have hr := Option.some.inj h
    subst hr
    exact rrA (res_tmp h4) rfl
  · refine .skip ?_
    refine .nsq ?_
    refine .seq ?_
    refine run_reg ?_
    refine e_end ?_
    refine g_v1 (t := 1) (u := (.int .i64 b_2)) (.int .i64 b_2) h1 rfl rfl ?_
    refine g_v1 (t := 9) (u := (.int .i64 b_2)) (.int .i64 b_2) rfl rfl rfl ?_
    refine g_end ?_
    refine e_end ?_
    refine renew [(4, (.int .i64 b_2))] rfl ?_
    rintro s h4
    refine .nsq ?_
    refine .ret ?_
    have hr := Option.some.inj h
    subst hr
    exact rrA (res_tmp h4) rfl
end
def e66 (F : Nat) : Ent := ⟨66, da (fun (x : (Int × Int × Unit)) => s_l1Most F x.1 x.2.1) (fun (r : Int) => (Enc.enc (r : Int))), 0, false, selF []⟩
theorem p66 {F : Nat} {x0 : Int} {x1 : Int} {r : Int} (h : s_l1Most F x0 x1 = some r) : (e66 F).den [Enc.enc x0, Enc.enc x1] = some (Enc.enc (r : Int)) := da_put (f := fun (x : (Int × Int × Unit)) => s_l1Most F x.1 x.2.1) (t := fun (r : Int) => (Enc.enc (r : Int))) (x0, x1, ()) h
theorem o66 {D : Den} {σ : Sig} {F : Nat} (hF : Fits2 Try.prog D σ) (H : H66 D σ F) : (e66 F).Ok Try.prog := by
  refine ok_of (f := 66) (show unk 66 = 66 from rfl) (fun args r h => ?_) ⟨Try.f66, Try.func66, rfl, rfl⟩
  obtain ⟨⟨x0, x1, _⟩, y, rfl, hy, rfl⟩ := da_open h
  exact contract_run hF (by kernel_rfl) Try.func66 rfl c66 (show 2 ≤ Try.f66.ntmps by decide) (t66 H x0 x1 _ ⟨rfl, rfl⟩ hy)
/- loop.example/g01109/spec.l7Rests -/
def A85_2 : AC := (AC.cond (O.t 16) AC.skip (AC.exit 0))
def A85_7 : AC := (AC.cond (O.t 22) AC.skip (AC.exit 2))
def A85_9 : AC := (AC.cond (O.t 29) (AC.exit 3) AC.skip)
def A85_12 : AC := (AC.cond (O.t 53) (AC.reg [] [(I.mk (some 54) none false (X.v (A.mov (O.t 7)))), (I.mk (some 5) none false (X.v (A.mov (O.t 54))))] []) AC.skip)
def A85_11 : AC := (AC.seq (AC.reg [] [(I.mk (some 47) none false (X.v (A.mov (O.t 5)))), (I.mk (some 48) none false (X.v (A.bin BinOp.lss (O.t 47) (O.k (V.int IntKind.i64 (Int.ofNat 0)))))), (I.mk (some 49) none false (X.v (A.mov (O.t 48)))), (I.mk (some 50) (some (49, false)) false (X.v (A.mov (O.t 7)))), (I.mk (some 51) (some (49, false)) false (X.v (A.mov (O.t 5)))), (I.mk (some 52) (some (49, false)) false (X.v (A.bin BinOp.lss (O.t 50) (O.t 51)))), (I.mk (some 53) none false (X.v (A.pick (O.t 49) (O.k (V.bool true)) (O.t 52))))] []) A85_12)
def A85_10 : AC := (AC.seq (AC.reg [] [(I.mk (some 30) none false (X.v (A.load (Sh.ag [Sh.s, Sh.p]) (O.t 1)))), (I.mk (some 31) none false (X.v (A.fld (O.t 1) 0 0))), (I.mk (some 32) none false (X.v (A.load Sh.s (O.t 31)))), (I.mk (some 33) none false (X.v (A.mov (O.t 4)))), (I.mk (some 34) none false (X.v (A.mov (O.t 6)))), (I.mk (some 35) none false (X.v (A.bin BinOp.shl (O.k (V.int IntKind.i64 (Int.ofNat 1))) (O.t 34)))), (I.mk (some 36) none false (X.v (A.bin BinOp.add (O.t 33) (O.t 35)))), (I.mk (some 37) none false (X.call (O.k (V.fn 56 [] [])) [(O.t 32), (O.t 36)])), (I.mk (some 38) none false (X.call (O.k (V.fn 86 [] [])) [(O.t 30), (O.t 37)])), (I.mk (some 39) none false (X.v (A.mov (O.t 3)))), (I.mk (some 40) none false (X.v (A.mov (O.t 4)))), (I.mk (some 41) none false (X.v (A.mov (O.t 6)))), (I.mk (some 42) none false (X.v (A.bin BinOp.shl (O.k (V.int IntKind.i64 (Int.ofNat 1))) (O.t 41)))), (I.mk (some 43) none false (X.v (A.bin BinOp.add (O.t 40) (O.t 42)))), (I.mk (some 44) none false (X.v (A.idx (O.t 39) (O.t 43) 1))), (I.mk (some 45) none false (X.v (A.load Sh.s (O.t 44)))), (I.mk (some 46) none false (X.call (O.k (V.fn 66 [] [])) [(O.t 38), (O.t 45)])), (I.mk (some 7) none false (X.v (A.mov (O.t 46))))] []) A85_11)
def A85_13 : AC := (AC.reg [] [(I.mk (some 23) none false (X.v (A.mov (O.t 6)))), (I.mk (some 24) none false (X.v (A.bin BinOp.add (O.t 23) (O.k (V.int IntKind.i64 (Int.ofNat 1)))))), (I.mk (some 6) none false (X.v (A.mov (O.t 24))))] [])
def A85_8 : AC := (AC.seq (AC.block 3 (AC.seq (AC.seq (AC.reg [] [(I.mk (some 25) none false (X.v (A.mov (O.t 4)))), (I.mk (some 26) none false (X.v (A.mov (O.t 6)))), (I.mk (some 27) none false (X.v (A.bin BinOp.shr (O.t 25) (O.t 26)))), (I.mk (some 28) none false (X.v (A.bin BinOp.and (O.t 27) (O.k (V.int IntKind.i64 (Int.ofNat 1)))))), (I.mk (some 29) none false (X.v (A.bin BinOp.eql (O.t 28) (O.k (V.int IntKind.i64 (Int.ofNat 1))))))] []) A85_9) A85_10)) A85_13)
def A85_6 : AC := (AC.seq (AC.seq (AC.reg [] [(I.mk (some 19) none false (X.v (A.mov (O.t 6)))), (I.mk (some 20) none false (X.v (A.fld (O.t 1) 0 0))), (I.mk (some 21) none false (X.v (A.load Sh.s (O.t 20)))), (I.mk (some 22) none false (X.v (A.bin BinOp.lss (O.t 19) (O.t 21))))] []) A85_7) A85_8)
def A85_5 : AC := (AC.block 2 (AC.loop A85_6))
def A85_14 : AC := (AC.reg [] [(I.mk (some 55) none false (X.v (A.mov (O.t 3)))), (I.mk (some 56) none false (X.v (A.mov (O.t 4)))), (I.mk (some 57) none false (X.v (A.mov (O.t 5)))), (I.mk (some 58) none false (X.v (A.idx (O.t 55) (O.t 56) 1))), (I.mk none none false (X.store Sh.s (O.t 58) (O.t 57)))] [])
def A85_4 : AC := (AC.seq (AC.seq (AC.reg [] [(I.mk (some 6) none false (X.v (A.mov (O.k (V.int IntKind.i64 (Int.ofNat 0))))))] []) A85_5) A85_14)
def A85_15 : AC := (AC.reg [] [(I.mk (some 17) none false (X.v (A.mov (O.t 4)))), (I.mk (some 18) none false (X.v (A.bin BinOp.sub (O.t 17) (O.k (V.int IntKind.i64 (Int.ofNat 1)))))), (I.mk (some 4) none false (X.v (A.mov (O.t 18))))] [])
def A85_3 : AC := (AC.seq (AC.block 1 (AC.seq (AC.reg [] [(I.mk (some 5) none false (X.v (A.mov (O.k (V.int IntKind.i64 (Int.negSucc 0))))))] []) A85_4)) A85_15)
def A85_1 : AC := (AC.seq (AC.seq (AC.reg [] [(I.mk (some 15) none false (X.v (A.mov (O.t 4)))), (I.mk (some 16) none false (X.v (A.bin BinOp.geq (O.t 15) (O.k (V.int IntKind.i64 (Int.ofNat 0))))))] []) A85_2) A85_3)
def A85_16 : AC := (AC.seq (AC.reg [] [(I.mk (some 59) none false (X.v (A.mov (O.t 3)))), (I.mk (some 2) none false (X.v (A.mov (O.t 59))))] [.home 3 2]) AC.ret)
def A85_19 : AC := (AC.block 0 (AC.loop A85_1))
def A85_18 : AC := (AC.seq (AC.seq (AC.reg [] [(I.mk (some 12) none false (X.v (A.mov (O.t 3)))), (I.mk (some 13) none false (X.v (A.len (O.t 12)))), (I.mk (some 14) none false (X.v (A.bin BinOp.sub (O.t 13) (O.k (V.int IntKind.i64 (Int.ofNat 2)))))), (I.mk (some 4) none false (X.v (A.mov (O.t 14))))] []) A85_19) A85_16)
def A85_17 : AC := (AC.seq (AC.reg [.clr [11]] [(I.mk (some 8) none false (X.v (A.fld (O.t 1) 0 0))), (I.mk (some 9) none false (X.v (A.load Sh.s (O.t 8)))), (I.mk (some 10) none false (X.v (A.bin BinOp.shl (O.k (V.int IntKind.i64 (Int.ofNat 1))) (O.t 9)))), (I.mk (some 11) none false (X.mk (O.t 10) (V.int IntKind.i64 (Int.ofNat 0)))), (I.mk (some 3) none false (X.v (A.mov (O.t 11))))] [.home 11 3]) A85_18)
def A85 : AC := (AC.seq (AC.reg [.clr [1]] [(I.mk (some 1) none false (X.box (O.t 0))), (I.mk (some 2) none false (X.v (A.mov (O.k (V.sl Tok.nl Sh.s 0 [])))))] []) A85_17)
def an85 : List An := [{ id := 0, pre := [.clr [1]], ep := [], lin := [], sp := [] }, { id := 1, pre := [.clr [11]], ep := [.home 11 3], lin := [], sp := [] }, { id := 14, pre := [], ep := [.home 3 2], lin := [], sp := [] }]
theorem c85 : cC Try.prog Try.f85.ntmps an85 (Try.f85.body.getD .skip) = some A85 := by kernel_rfl
structure H85 (D : Den) (σ : Sig) (F : Nat) : Prop where
  c56 : ∀ (x0 : Int) (x1 : Int) r, s_l2Bits F x0 x1 = some r → D 56 [Enc.enc x0, Enc.enc x1] = some (Enc.enc (r : (List Int)))
  g56 : σ 56 = some (0, false)
  c86 : ∀ (x0 : (Int × (List (Int × Int)))) (x1 : (List Int)) r, s_l7Cut F x0 x1 = some r → D 86 [Enc.enc x0, Enc.enc x1] = some (Enc.enc (r : Int))
  g86 : σ 86 = some (0, false)
  c66 : ∀ (x0 : Int) (x1 : Int) r, s_l1Most F x0 x1 = some r → D 66 [Enc.enc x0, Enc.enc x1] = some (Enc.enc (r : Int))
  g66 : σ 66 = some (0, false)
abbrev R85 (r : (List Int)) : (Nat → V) → Prop := RR Try.prog [.tmp 2] 0 false (Enc.enc (r : (List Int)))
section
variable {D : Den} {σ : Sig} {F : Nat} {r : (List Int)}
def s_l7Rests_j1 (F : Nat) (g_1 : (Int × (List (Int × Int)))) (out_34 : (List Int)) (code_35 : Int) (x_76 : Int) (c1 : (List Int) → Int → Option (List Int)) (c4 : Int → Int → Option (List Int)) (best_94 : Int) : Option (List Int) :=
  c4 best_94 (w64 (x_76 + 1))
theorem t_f85_j1 (H : H85 D σ F) (g_1 : (Int × (List (Int × Int)))) (out_34 : (List Int)) (code_35 : Int) (x_76 : Int) (c1 : (List Int) → Int → Option (List Int)) (Hc1 : ∀ (out_34 : (List Int)) (code_35 : Int) (s : Nat → V), Facts [(1, (.ref (.bx 1) 0 [] (.agg [(.int .i64 g_1.1), (Enc.enc (g_1.2 : List (Int × Int)))]))), (2, (.sl .nl (Enc.shp Int) 0 [])), (3, (encO (.at 3 []) (.of (out_34 : List Int)))), (4, (.int .i64 code_35))] s → c1 out_34 code_35 = some r → Run D σ (R85 r) (.run A85_1 [.lp A85_1, .bk 0, .sq A85_16]) s) (c4 : Int → Int → Option (List Int)) (Hc4 : ∀ (best_75 : Int) (x_76 : Int) (s : Nat → V), Facts [(1, (.ref (.bx 1) 0 [] (.agg [(.int .i64 g_1.1), (Enc.enc (g_1.2 : List (Int × Int)))]))), (2, (.sl .nl (Enc.shp Int) 0 [])), (3, (encO (.at 3 []) (.of (out_34 : List Int)))), (4, (.int .i64 code_35)), (5, (.int .i64 best_75)), (6, (.int .i64 x_76))] s → c4 best_75 x_76 = some r → Run D σ (R85 r) (.run A85_6 [.lp A85_6, .bk 2, .sq A85_14, .bk 1, .sq A85_15, .lp A85_1, .bk 0, .sq A85_16]) s) (best_94 : Int) (s : Nat → V) (hs : Facts [(1, (.ref (.bx 1) 0 [] (.agg [(.int .i64 g_1.1), (Enc.enc (g_1.2 : List (Int × Int)))]))), (2, (.sl .nl (Enc.shp Int) 0 [])), (3, (encO (.at 3 []) (.of (out_34 : List Int)))), (4, (.int .i64 code_35)), (5, (.int .i64 best_94)), (6, (.int .i64 x_76))] s) (h : s_l7Rests_j1 F g_1 out_34 code_35 x_76 c1 c4 best_94 = some r) : Run D σ (R85 r) (.nrm [.bk 3, .sq A85_13, .lp A85_6, .bk 2, .sq A85_14, .bk 1, .sq A85_15, .lp A85_1, .bk 0, .sq A85_16]) s := by
  unfold s_l7Rests_j1 at h
  obtain ⟨h1, h2, h3, h4, h5, h6⟩ := hs
  refine .nbk ?_
  refine .nsq ?_
  refine run_reg ?_
  refine e_end ?_
  refine g_v1 (t := 6) (u := (.int .i64 x_76)) (.int .i64 x_76) h6 rfl rfl ?_
  refine g_v1 (t := 23) (u := (.int .i64 x_76)) (.int .i64 (w64 (x_76 + 1))) rfl rfl rfl ?_
  refine g_v1 (t := 24) (u := (.int .i64 (w64 (x_76 + 1)))) (.int .i64 (w64 (x_76 + 1))) rfl rfl rfl ?_
  refine g_end ?_
  refine e_end ?_
  refine renew [(1, (.ref (.bx 1) 0 [] (.agg [(.int .i64 g_1.1), (Enc.enc (g_1.2 : List (Int × Int)))]))), (2, (.sl .nl (Enc.shp Int) 0 [])), (3, (encO (.at 3 []) (.of (out_34 : List Int)))), (4, (.int .i64 code_35)), (5, (.int .i64 best_94)), (6, (.int .i64 (w64 (x_76 + 1))))] ⟨h1, h2, h3, h4, h5, rfl⟩ ?_
  rintro s ⟨h1, h2, h3, h4, h5, h6⟩
  refine .nlp ?_
  exact Hc4 best_94 (w64 (x_76 + 1)) _ ⟨h1, h2, h3, h4, h5, h6⟩ h
def s_l7Rests_j2 (F : Nat) (g_1 : (Int × (List (Int × Int)))) (out_34 : (List Int)) (code_35 : Int) (best_75 : Int) (x_76 : Int) (r_92 : Int) (c1 : (List Int) → Int → Option (List Int)) (c4 : Int → Int → Option (List Int)) (t53_93 : Bool) : Option (List Int) :=
  bif t53_93 then
    s_l7Rests_j1 F g_1 out_34 code_35 x_76 c1 c4 r_92
  else
    s_l7Rests_j1 F g_1 out_34 code_35 x_76 c1 c4 best_75
theorem t_f85_j2 (H : H85 D σ F) (g_1 : (Int × (List (Int × Int)))) (out_34 : (List Int)) (code_35 : Int) (best_75 : Int) (x_76 : Int) (r_92 : Int) (c1 : (List Int) → Int → Option (List Int)) (Hc1 : ∀ (out_34 : (List Int)) (code_35 : Int) (s : Nat → V), Facts [(1, (.ref (.bx 1) 0 [] (.agg [(.int .i64 g_1.1), (Enc.enc (g_1.2 : List (Int × Int)))]))), (2, (.sl .nl (Enc.shp Int) 0 [])), (3, (encO (.at 3 []) (.of (out_34 : List Int)))), (4, (.int .i64 code_35))] s → c1 out_34 code_35 = some r → Run D σ (R85 r) (.run A85_1 [.lp A85_1, .bk 0, .sq A85_16]) s) (c4 : Int → Int → Option (List Int)) (Hc4 : ∀ (best_75 : Int) (x_76 : Int) (s : Nat → V), Facts [(1, (.ref (.bx 1) 0 [] (.agg [(.int .i64 g_1.1), (Enc.enc (g_1.2 : List (Int × Int)))]))), (2, (.sl .nl (Enc.shp Int) 0 [])), (3, (encO (.at 3 []) (.of (out_34 : List Int)))), (4, (.int .i64 code_35)), (5, (.int .i64 best_75)), (6, (.int .i64 x_76))] s → c4 best_75 x_76 = some r → Run D σ (R85 r) (.run A85_6 [.lp A85_6, .bk 2, .sq A85_14, .bk 1, .sq A85_15, .lp A85_1, .bk 0, .sq A85_16]) s) (t53_93 : Bool) (s : Nat → V) (hs : Facts [(1, (.ref (.bx 1) 0 [] (.agg [(.int .i64 g_1.1), (Enc.enc (g_1.2 : List (Int × Int)))]))), (2, (.sl .nl (Enc.shp Int) 0 [])), (3, (encO (.at 3 []) (.of (out_34 : List Int)))), (4, (.int .i64 code_35)), (5, (.int .i64 best_75)), (6, (.int .i64 x_76)), (7, (.int .i64 r_92)), (53, (.bool t53_93))] s) (h : s_l7Rests_j2 F g_1 out_34 code_35 best_75 x_76 r_92 c1 c4 t53_93 = some r) : Run D σ (R85 r) (.nrm [.sq A85_12, .bk 3, .sq A85_13, .lp A85_6, .bk 2, .sq A85_14, .bk 1, .sq A85_15, .lp A85_1, .bk 0, .sq A85_16]) s := by
  unfold s_l7Rests_j2 at h
  obtain ⟨h1, h2, h3, h4, h5, h6, h7, h53⟩ := hs
  refine .nsq ?_
  refine run_cond (t := t53_93) h53 h (fun h => ?_) (fun h => ?_)
  · refine run_reg ?_
    refine e_end ?_
    refine g_v1 (t := 7) (u := (.int .i64 r_92)) (.int .i64 r_92) h7 rfl rfl ?_
    refine g_v1 (t := 54) (u := (.int .i64 r_92)) (.int .i64 r_92) rfl rfl rfl ?_
    refine g_end ?_
    refine e_end ?_
    refine renew [(1, (.ref (.bx 1) 0 [] (.agg [(.int .i64 g_1.1), (Enc.enc (g_1.2 : List (Int × Int)))]))), (2, (.sl .nl (Enc.shp Int) 0 [])), (3, (encO (.at 3 []) (.of (out_34 : List Int)))), (4, (.int .i64 code_35)), (5, (.int .i64 r_92)), (6, (.int .i64 x_76))] ⟨h1, h2, h3, h4, rfl, h6⟩ ?_
    rintro s ⟨h1, h2, h3, h4, h5, h6⟩
    exact t_f85_j1 H g_1 out_34 code_35 x_76 c1 Hc1 c4 Hc4 r_92 _ ⟨h1, h2, h3, h4, h5, h6⟩ h
  · refine .skip ?_
    exact t_f85_j1 H g_1 out_34 code_35 x_76 c1 Hc1 c4 Hc4 best_75 _ ⟨h1, h2, h3, h4, h5, h6⟩ h
def s_l7Rests_l1 (F : Nat) (g_1 : (Int × (List (Int × Int)))) (out_34 : (List Int)) (code_35 : Int) (c1 : (List Int) → Int → Option (List Int)) : Nat → Int → Int → Option (List Int)
  | 0, _, _ => none
  | k + 1, best_75, x_76 =>
    bif decide (x_76 < g_1.1) then
      (shrI .i64 code_35 x_76).bind fun q_86 =>
      bif ((iand .i64 q_86 1) == 1) then
        (s_l7Rests_l1 F g_1 out_34 code_35 c1 k) best_75 (w64 (x_76 + 1))
      else
        (shlI .i64 1 x_76).bind fun q_87 =>
        (s_l2Bits F g_1.1 (w64 (code_35 + q_87))).bind fun r_88 =>
        (s_l7Cut F g_1 r_88).bind fun r_89 =>
        (shlI .i64 1 x_76).bind fun q_90 =>
        (idx out_34 (w64 (code_35 + q_90))).bind fun e_91 =>
        (s_l1Most F r_89 e_91).bind fun r_92 =>
        bif decide (best_75 < 0) then
          s_l7Rests_j2 F g_1 out_34 code_35 best_75 x_76 r_92 c1 (s_l7Rests_l1 F g_1 out_34 code_35 c1 k) true
        else
          s_l7Rests_j2 F g_1 out_34 code_35 best_75 x_76 r_92 c1 (s_l7Rests_l1 F g_1 out_34 code_35 c1 k) (decide (r_92 < best_75))
    else
      (idx out_34 code_35).bind fun e_95 =>
      c1 (out_34.set code_35.toNat best_75) (w64 (code_35 - 1))
theorem t_f85_l1 (H : H85 D σ F) (g_1 : (Int × (List (Int × Int)))) (out_34 : (List Int)) (code_35 : Int) (c1 : (List Int) → Int → Option (List Int)) (Hc1 : ∀ (out_34 : (List Int)) (code_35 : Int) (s : Nat → V), Facts [(1, (.ref (.bx 1) 0 [] (.agg [(.int .i64 g_1.1), (Enc.enc (g_1.2 : List (Int × Int)))]))), (2, (.sl .nl (Enc.shp Int) 0 [])), (3, (encO (.at 3 []) (.of (out_34 : List Int)))), (4, (.int .i64 code_35))] s → c1 out_34 code_35 = some r → Run D σ (R85 r) (.run A85_1 [.lp A85_1, .bk 0, .sq A85_16]) s) : ∀ (k : Nat) (best_75 : Int) (x_76 : Int) (s : Nat → V), Facts [(1, (.ref (.bx 1) 0 [] (.agg [(.int .i64 g_1.1), (Enc.enc (g_1.2 : List (Int × Int)))]))), (2, (.sl .nl (Enc.shp Int) 0 [])), (3, (encO (.at 3 []) (.of (out_34 : List Int)))), (4, (.int .i64 code_35)), (5, (.int .i64 best_75)), (6, (.int .i64 x_76))] s → s_l7Rests_l1 F g_1 out_34 code_35 c1 k best_75 x_76 = some r → Run D σ (R85 r) (.run A85_6 [.lp A85_6, .bk 2, .sq A85_14, .bk 1, .sq A85_15, .lp A85_1, .bk 0, .sq A85_16]) s := by
  intro k
  induction k with
  | zero => intro best_75 x_76 s _ h; exact nomatch (h : (none : Option _) = some r)
  | succ k ih =>
    intro best_75 x_76 s hs h
    rw [s_l7Rests_l1] at h
    obtain ⟨h1, h2, h3, h4, h5, h6⟩ := hs
    refine .seq ?_
    refine .seq ?_
    refine run_reg ?_
    refine e_end ?_
    refine g_v1 (t := 6) (u := (.int .i64 x_76)) (.int .i64 x_76) h6 rfl rfl ?_
    refine g_v1 (t := 1) (u := (.ref (.bx 1) 0 [] (.agg [(.int .i64 g_1.1), (Enc.enc (g_1.2 : List (Int × Int)))]))) (.ref (.bx 1) 0 [0] (.int .i64 g_1.1)) h1 rfl rfl ?_
    refine g_v1 (t := 20) (u := (.ref (.bx 1) 0 [0] (.int .i64 g_1.1))) (.int .i64 g_1.1) rfl rfl rfl ?_
    refine g_v2 (t1 := 19) (t2 := 21) (u1 := (.int .i64 x_76)) (u2 := (.int .i64 g_1.1)) (.bool (decide (x_76 < g_1.1))) rfl rfl rfl rfl ?_
    refine g_end ?_
    refine e_end ?_
    refine renew [(1, (.ref (.bx 1) 0 [] (.agg [(.int .i64 g_1.1), (Enc.enc (g_1.2 : List (Int × Int)))]))), (2, (.sl .nl (Enc.shp Int) 0 [])), (3, (encO (.at 3 []) (.of (out_34 : List Int)))), (4, (.int .i64 code_35)), (5, (.int .i64 best_75)), (6, (.int .i64 x_76)), (22, (.bool (decide (x_76 < g_1.1))))] ⟨h1, h2, h3, h4, h5, h6, rfl⟩ ?_
    rintro s ⟨h1, h2, h3, h4, h5, h6, h22⟩
    refine .nsq ?_
    refine run_cond (t := decide (x_76 < g_1.1)) h22 h (fun h => ?_) (fun h => ?_)
    · refine .skip ?_
      refine .nsq ?_
      refine .seq ?_
      refine .block ?_
      refine .seq ?_
      refine .seq ?_
      refine run_reg ?_
      refine e_end ?_
      refine g_v1 (t := 4) (u := (.int .i64 code_35)) (.int .i64 code_35) h4 rfl rfl ?_
      refine g_v1 (t := 6) (u := (.int .i64 x_76)) (.int .i64 x_76) h6 rfl rfl ?_
      obtain ⟨q_86, E_q_86, h⟩ := bind_some h
      refine g_v (.int .i64 q_86) (ev_shr rfl rfl E_q_86) ?_
      refine g_v1 (t := 27) (u := (.int .i64 q_86)) (.int .i64 (iand .i64 q_86 1)) rfl rfl rfl ?_
      refine g_v1 (t := 28) (u := (.int .i64 (iand .i64 q_86 1))) (.bool ((iand .i64 q_86 1) == 1)) rfl rfl rfl ?_
      refine g_end ?_
      refine e_end ?_
      refine renew [(1, (.ref (.bx 1) 0 [] (.agg [(.int .i64 g_1.1), (Enc.enc (g_1.2 : List (Int × Int)))]))), (2, (.sl .nl (Enc.shp Int) 0 [])), (3, (encO (.at 3 []) (.of (out_34 : List Int)))), (4, (.int .i64 code_35)), (5, (.int .i64 best_75)), (6, (.int .i64 x_76)), (29, (.bool ((iand .i64 q_86 1) == 1)))] ⟨h1, h2, h3, h4, h5, h6, rfl⟩ ?_
      rintro s ⟨h1, h2, h3, h4, h5, h6, h29⟩
      refine .nsq ?_
      refine run_cond (t := ((iand .i64 q_86 1) == 1)) h29 h (fun h => ?_) (fun h => ?_)
      · refine .exit ?_
        refine .esq ?_
        refine .ebk ?_
        refine .nsq ?_
        refine run_reg ?_
        refine e_end ?_
        refine g_v1 (t := 6) (u := (.int .i64 x_76)) (.int .i64 x_76) h6 rfl rfl ?_
        refine g_v1 (t := 23) (u := (.int .i64 x_76)) (.int .i64 (w64 (x_76 + 1))) rfl rfl rfl ?_
        refine g_v1 (t := 24) (u := (.int .i64 (w64 (x_76 + 1)))) (.int .i64 (w64 (x_76 + 1))) rfl rfl rfl ?_
        refine g_end ?_
        refine e_end ?_
        refine renew [(1, (.ref (.bx 1) 0 [] (.agg [(.int .i64 g_1.1), (Enc.enc (g_1.2 : List (Int × Int)))]))), (2, (.sl .nl (Enc.shp Int) 0 [])), (3, (encO (.at 3 []) (.of (out_34 : List Int)))), (4, (.int .i64 code_35)), (5, (.int .i64 best_75)), (6, (.int .i64 (w64 (x_76 + 1))))] ⟨h1, h2, h3, h4, h5, rfl⟩ ?_
        rintro s ⟨h1, h2, h3, h4, h5, h6⟩
        refine .nlp ?_
        exact ih best_75 (w64 (x_76 + 1)) _ ⟨h1, h2, h3, h4, h5, h6⟩ h
      · refine .skip ?_
        refine .nsq ?_
        refine .seq ?_
        refine run_reg ?_
        refine e_end ?_
        refine g_v1 (t := 1) (u := (.ref (.bx 1) 0 [] (.agg [(.int .i64 g_1.1), (Enc.enc (g_1.2 : List (Int × Int)))]))) (.agg [(.int .i64 g_1.1), (Enc.enc (g_1.2 : List (Int × Int)))]) h1 rfl rfl ?_
        refine g_v1 (t := 1) (u := (.ref (.bx 1) 0 [] (.agg [(.int .i64 g_1.1), (Enc.enc (g_1.2 : List (Int × Int)))]))) (.ref (.bx 1) 0 [0] (.int .i64 g_1.1)) h1 rfl rfl ?_
        refine g_v1 (t := 31) (u := (.ref (.bx 1) 0 [0] (.int .i64 g_1.1))) (.int .i64 g_1.1) rfl rfl rfl ?_
        refine g_v1 (t := 4) (u := (.int .i64 code_35)) (.int .i64 code_35) h4 rfl rfl ?_
        refine g_v1 (t := 6) (u := (.int .i64 x_76)) (.int .i64 x_76) h6 rfl rfl ?_
        obtain ⟨q_87, E_q_87, h⟩ := bind_some h
        refine g_v (.int .i64 q_87) (ev_shl rfl rfl E_q_87) ?_
        refine g_v2 (t1 := 33) (t2 := 35) (u1 := (.int .i64 code_35)) (u2 := (.int .i64 q_87)) (.int .i64 (w64 (code_35 + q_87))) rfl rfl rfl rfl ?_
        obtain ⟨r_88, E_r_88, h⟩ := bind_some h
        refine g_call (m := 0) (al := false) (r := (Enc.enc (r_88 : (List Int)))) [Enc.enc (g_1.1 : Int), Enc.enc (w64 (code_35 + q_87) : Int)] (ta_cons (v := (.int .i64 g_1.1)) rfl rfl rfl (ta_cons (v := (.int .i64 (w64 (code_35 + q_87)))) rfl rfl rfl ta_nil)) (H.c56 _ _ _ E_r_88) H.g56 rfl rfl rfl rfl ?_
        obtain ⟨r_89, E_r_89, h⟩ := bind_some h
        refine g_call (m := 0) (al := false) (r := (Enc.enc (r_89 : Int))) [Enc.enc (g_1 : (Int × (List (Int × Int)))), Enc.enc (r_88 : (List Int))] (ta_cons (v := (.agg [(.int .i64 g_1.1), (Enc.enc (g_1.2 : List (Int × Int)))])) rfl rfl (Enc.erase_enc (g_1 : (Int × (List (Int × Int))))) (ta_cons (v := (Enc.enc (r_88 : List Int))) rfl rfl (Enc.erase_enc (r_88 : (List Int))) ta_nil)) (H.c86 _ _ _ E_r_89) H.g86 rfl rfl rfl rfl ?_
        refine g_v1 (t := 3) (u := (encO (.at 3 []) (.of (out_34 : List Int)))) (encO (.at 3 []) (.of (out_34 : List Int))) h3 rfl rfl ?_
        refine g_v1 (t := 4) (u := (.int .i64 code_35)) (.int .i64 code_35) h4 rfl rfl ?_
        refine g_v1 (t := 6) (u := (.int .i64 x_76)) (.int .i64 x_76) h6 rfl rfl ?_
        obtain ⟨q_90, E_q_90, h⟩ := bind_some h
        refine g_v (.int .i64 q_90) (ev_shl rfl rfl E_q_90) ?_
        refine g_v2 (t1 := 40) (t2 := 42) (u1 := (.int .i64 code_35)) (u2 := (.int .i64 q_90)) (.int .i64 (w64 (code_35 + q_90))) rfl rfl rfl rfl ?_
        obtain ⟨e_91, E_e_91, h⟩ := bind_some h
        refine g_v (.ref (.at 3 []) ((w64 (code_35 + q_90)).toNat) [] (.int .i64 e_91)) (ev_idxO (o := (.of out_34)) rfl rfl E_e_91 rfl) ?_
        refine g_v1 (t := 44) (u := (.ref (.at 3 []) ((w64 (code_35 + q_90)).toNat) [] (.int .i64 e_91))) (.int .i64 e_91) rfl rfl rfl ?_
        obtain ⟨r_92, E_r_92, h⟩ := bind_some h
        refine g_call (m := 0) (al := false) (r := (Enc.enc (r_92 : Int))) [Enc.enc (r_89 : Int), Enc.enc (e_91 : Int)] (ta_cons (v := (.int .i64 r_89)) rfl rfl rfl (ta_cons (v := (.int .i64 e_91)) rfl rfl rfl ta_nil)) (H.c66 _ _ _ E_r_92) H.g66 rfl rfl rfl rfl ?_
        refine g_v1 (t := 46) (u := (.int .i64 r_92)) (.int .i64 r_92) rfl rfl rfl ?_
        refine g_end ?_
        refine e_end ?_
        refine renew [(1, (.ref (.bx 1) 0 [] (.agg [(.int .i64 g_1.1), (Enc.enc (g_1.2 : List (Int × Int)))]))), (2, (.sl .nl (Enc.shp Int) 0 [])), (3, (encO (.at 3 []) (.of (out_34 : List Int)))), (4, (.int .i64 code_35)), (5, (.int .i64 best_75)), (6, (.int .i64 x_76)), (7, (.int .i64 r_92))] ⟨h1, h2, h3, h4, h5, h6, rfl⟩ ?_
        rintro s ⟨h1, h2, h3, h4, h5, h6, h7⟩
        refine .nsq ?_
        refine .seq ?_
        refine run_reg ?_
        refine e_end ?_
        refine g_v1 (t := 5) (u := (.int .i64 best_75)) (.int .i64 best_75) h5 rfl rfl ?_
        refine g_v1 (t := 47) (u := (.int .i64 best_75)) (.bool (decide (best_75 < 0))) rfl rfl rfl ?_
        refine g_v1 (t := 48) (u := (.bool (decide (best_75 < 0)))) (.bool (decide (best_75 < 0))) rfl rfl rfl ?_
        refine split_on (c := decide (best_75 < 0)) h (fun hg3 h => ?_) (fun hg3 h => ?_)
        · refine g_no (Eq.trans (b := .bool (decide (best_75 < 0))) rfl (congrArg V.bool hg3)) ?_
          refine g_no (Eq.trans (b := .bool (decide (best_75 < 0))) rfl (congrArg V.bool hg3)) ?_
          refine g_no (Eq.trans (b := .bool (decide (best_75 < 0))) rfl (congrArg V.bool hg3)) ?_
          refine g_v2 (t1 := 49) (t2 := 52) (u1 := (.bool true)) (u2 := (.tup [])) (.bool true) (Eq.trans (b := .bool (decide (best_75 < 0))) rfl (congrArg V.bool hg3)) rfl rfl rfl ?_
          refine g_end ?_
          refine e_end ?_
          refine renew [(1, (.ref (.bx 1) 0 [] (.agg [(.int .i64 g_1.1), (Enc.enc (g_1.2 : List (Int × Int)))]))), (2, (.sl .nl (Enc.shp Int) 0 [])), (3, (encO (.at 3 []) (.of (out_34 : List Int)))), (4, (.int .i64 code_35)), (5, (.int .i64 best_75)), (6, (.int .i64 x_76)), (7, (.int .i64 r_92)), (53, (.bool true))] ⟨h1, h2, h3, h4, h5, h6, h7, rfl⟩ ?_
          rintro s ⟨h1, h2, h3, h4, h5, h6, h7, h53⟩
          exact t_f85_j2 H g_1 out_34 code_35 best_75 x_76 r_92 c1 Hc1 (s_l7Rests_l1 F g_1 out_34 code_35 c1 k) ih true _ ⟨h1, h2, h3, h4, h5, h6, h7, h53⟩ h
        · refine g_yes (Eq.trans (b := .bool (decide (best_75 < 0))) rfl (congrArg V.bool hg3)) (g_v1 (t := 7) (u := (.int .i64 r_92)) (.int .i64 r_92) h7 rfl rfl ?_)
          refine g_yes (Eq.trans (b := .bool (decide (best_75 < 0))) rfl (congrArg V.bool hg3)) (g_v1 (t := 5) (u := (.int .i64 best_75)) (.int .i64 best_75) h5 rfl rfl ?_)
          refine g_yes (Eq.trans (b := .bool (decide (best_75 < 0))) rfl (congrArg V.bool hg3)) (g_v2 (t1 := 50) (t2 := 51) (u1 := (.int .i64 r_92)) (u2 := (.int .i64 best_75)) (.bool (decide (r_92 < best_75))) rfl rfl rfl rfl ?_)
          refine g_v2 (t1 := 49) (t2 := 52) (u1 := (.bool false)) (u2 := (.bool (decide (r_92 < best_75)))) (.bool (decide (r_92 < best_75))) (Eq.trans (b := .bool (decide (best_75 < 0))) rfl (congrArg V.bool hg3)) rfl rfl rfl ?_
          refine g_end ?_
          refine e_end ?_
          refine renew [(1, (.ref (.bx 1) 0 [] (.agg [(.int .i64 g_1.1), (Enc.enc (g_1.2 : List (Int × Int)))]))), (2, (.sl .nl (Enc.shp Int) 0 [])), (3, (encO (.at 3 []) (.of (out_34 : List Int)))), (4, (.int .i64 code_35)), (5, (.int .i64 best_75)), (6, (.int .i64 x_76)), (7, (.int .i64 r_92)), (53, (.bool (decide (r_92 < best_75))))] ⟨h1, h2, h3, h4, h5, h6, h7, rfl⟩ ?_
          rintro s ⟨h1, h2, h3, h4, h5, h6, h7, h53⟩
          exact t_f85_j2 H g_1 out_34 code_35 best_75 x_76 r_92 c1 Hc1 (s_l7Rests_l1 F g_1 out_34 code_35 c1 k) ih (decide (r_92 < best_75)) _ ⟨h1, h2, h3, h4, h5, h6, h7, h53⟩ h
    · refine .exit ?_
      refine .esq ?_
      refine .elp ?_
      refine .ebk ?_
      refine .nsq ?_
      refine run_reg ?_
      refine e_end ?_
      refine g_v1 (t := 3) (u := (encO (.at 3 []) (.of (out_34 : List Int)))) (encO (.at 3 []) (.of (out_34 : List Int))) h3 rfl rfl ?_
      refine g_v1 (t := 4) (u := (.int .i64 code_35)) (.int .i64 code_35) h4 rfl rfl ?_
      refine g_v1 (t := 5) (u := (.int .i64 best_75)) (.int .i64 best_75) h5 rfl rfl ?_
      obtain ⟨e_95, E_e_95, h⟩ := bind_some h
      refine g_v (.ref (.at 3 []) code_35.toNat [] (.int .i64 e_95)) (ev_idxO (o := (.of out_34)) rfl rfl E_e_95 rfl) ?_
      refine g_store (.int .i64 best_75) (rd_of rfl rfl) (rd_of rfl rfl) (by refine ⟨by decide, by decide, rfl, rfl, rfl, ?_⟩; first | rfl | simp [V.toks, V.tokss, Enc.toks_enc]) ?_
      refine g_end ?_
      refine e_end ?_
      refine renew [(1, (.ref (.bx 1) 0 [] (.agg [(.int .i64 g_1.1), (Enc.enc (g_1.2 : List (Int × Int)))]))), (2, (.sl .nl (Enc.shp Int) 0 [])), (3, (encO (.at 3 []) (.of (out_34.set code_35.toNat best_75 : List Int)))), (4, (.int .i64 code_35))] ⟨(keep_mut h1 (mut_ref_ne rfl rfl (mut_agg (muts_cons rfl (muts_cons (Enc.mut_enc _ _ _ _ (g_1.2 : List (Int × Int))) rfl))))), (keep_mut h2 rfl), (keep_mut h3 mut_own), (keep_mut h4 rfl)⟩ ?_
      rintro s ⟨h1, h2, h3, h4⟩
      refine .nbk ?_
      refine .nsq ?_
      refine run_reg ?_
      refine e_end ?_
      refine g_v1 (t := 4) (u := (.int .i64 code_35)) (.int .i64 code_35) h4 rfl rfl ?_
      refine g_v1 (t := 17) (u := (.int .i64 code_35)) (.int .i64 (w64 (code_35 - 1))) rfl rfl rfl ?_
      refine g_v1 (t := 18) (u := (.int .i64 (w64 (code_35 - 1)))) (.int .i64 (w64 (code_35 - 1))) rfl rfl rfl ?_
      refine g_end ?_
      refine e_end ?_
      refine renew [(1, (.ref (.bx 1) 0 [] (.agg [(.int .i64 g_1.1), (Enc.enc (g_1.2 : List (Int × Int)))]))), (2, (.sl .nl (Enc.shp Int) 0 [])), (3, (encO (.at 3 []) (.of (out_34.set code_35.toNat best_75 : List Int)))), (4, (.int .i64 (w64 (code_35 - 1))))] ⟨h1, h2, h3, rfl⟩ ?_
      rintro s ⟨h1, h2, h3, h4⟩
      refine .nlp ?_
      exact Hc1 (out_34.set code_35.toNat best_75) (w64 (code_35 - 1)) _ ⟨h1, h2, h3, h4⟩ h
def s_l7Rests_l2 (F : Nat) (g_1 : (Int × (List (Int × Int))))  : Nat → (List Int) → Int → Option (List Int)
  | 0, _, _ => none
  | k + 1, out_34, code_35 =>
    bif decide (code_35 ≥ 0) then
      s_l7Rests_l1 F g_1 out_34 code_35 (s_l7Rests_l2 F g_1 k) F (-1) 0
    else
      some out_34
theorem t_f85_l2 (H : H85 D σ F) (g_1 : (Int × (List (Int × Int))))  : ∀ (k : Nat) (out_34 : (List Int)) (code_35 : Int) (s : Nat → V), Facts [(1, (.ref (.bx 1) 0 [] (.agg [(.int .i64 g_1.1), (Enc.enc (g_1.2 : List (Int × Int)))]))), (2, (.sl .nl (Enc.shp Int) 0 [])), (3, (encO (.at 3 []) (.of (out_34 : List Int)))), (4, (.int .i64 code_35))] s → s_l7Rests_l2 F g_1 k out_34 code_35 = some r → Run D σ (R85 r) (.run A85_1 [.lp A85_1, .bk 0, .sq A85_16]) s := by
  intro k
  induction k with
  | zero => intro out_34 code_35 s _ h; exact nomatch (h : (none : Option _) = some r)
  | succ k ih =>
    intro out_34 code_35 s hs h
    rw [s_l7Rests_l2] at h
    obtain ⟨h1, h2, h3, h4⟩ := hs
    refine .seq ?_
    refine .seq ?_
    refine run_reg ?_
    refine e_end ?_
    refine g_v1 (t := 4) (u := (.int .i64 code_35)) (.int .i64 code_35) h4 rfl rfl ?_
    refine g_v1 (t := 15) (u := (.int .i64 code_35)) (.bool (decide (code_35 ≥ 0))) rfl rfl rfl ?_
    refine g_end ?_
    refine e_end ?_
    refine renew [(1, (.ref (.bx 1) 0 [] (.agg [(.int .i64 g_1.1), (Enc.enc (g_1.2 : List (Int × Int)))]))), (2, (.sl .nl (Enc.shp Int) 0 [])), (3, (encO (.at 3 []) (.of (out_34 : List Int)))), (4, (.int .i64 code_35)), (16, (.bool (decide (code_35 ≥ 0))))] ⟨h1, h2, h3, h4, rfl⟩ ?_
    rintro s ⟨h1, h2, h3, h4, h16⟩
    refine .nsq ?_
    refine run_cond (t := decide (code_35 ≥ 0)) h16 h (fun h => ?_) (fun h => ?_)
    · refine .skip ?_
      refine .nsq ?_
      refine .seq ?_
      refine .block ?_
      refine .seq ?_
      refine run_reg ?_
      refine e_end ?_
      refine g_v0 (.int .i64 (-1)) rfl rfl ?_
      refine g_end ?_
      refine e_end ?_
      refine renew [(1, (.ref (.bx 1) 0 [] (.agg [(.int .i64 g_1.1), (Enc.enc (g_1.2 : List (Int × Int)))]))), (2, (.sl .nl (Enc.shp Int) 0 [])), (3, (encO (.at 3 []) (.of (out_34 : List Int)))), (4, (.int .i64 code_35)), (5, (.int .i64 (-1)))] ⟨h1, h2, h3, h4, rfl⟩ ?_
      rintro s ⟨h1, h2, h3, h4, h5⟩
      refine .nsq ?_
      refine .seq ?_
      refine .seq ?_
      refine run_reg ?_
      refine e_end ?_
      refine g_v0 (.int .i64 0) rfl rfl ?_
      refine g_end ?_
      refine e_end ?_
      refine renew [(1, (.ref (.bx 1) 0 [] (.agg [(.int .i64 g_1.1), (Enc.enc (g_1.2 : List (Int × Int)))]))), (2, (.sl .nl (Enc.shp Int) 0 [])), (3, (encO (.at 3 []) (.of (out_34 : List Int)))), (4, (.int .i64 code_35)), (5, (.int .i64 (-1))), (6, (.int .i64 0))] ⟨h1, h2, h3, h4, h5, rfl⟩ ?_
      rintro s ⟨h1, h2, h3, h4, h5, h6⟩
      refine .nsq ?_
      refine .block ?_
      refine .loop ?_
      exact t_f85_l1 H g_1 out_34 code_35 (s_l7Rests_l2 F g_1 k) ih F (-1) 0 _ ⟨h1, h2, h3, h4, h5, h6⟩ h
    · refine .exit ?_
      refine .esq ?_
      refine .elp ?_
      refine .ebk ?_
      refine .nsq ?_
      refine .seq ?_
      refine run_reg ?_
      refine e_end ?_
      refine g_v1 (t := 3) (u := (encO (.at 3 []) (.of (out_34 : List Int)))) (encO (.at 3 []) (.of (out_34 : List Int))) h3 rfl rfl ?_
      refine g_v1 (t := 59) (u := (encO (.at 3 []) (.of (out_34 : List Int)))) (encO (.at 3 []) (.of (out_34 : List Int))) rfl rfl rfl ?_
      refine g_end ?_
      refine e_home (r := 3) (x := 2) (v := (encO (.at 3 []) (.of (out_34 : List Int)))) (by exact rfl) rfl (fun s_4 hg_4 => ?_)
      refine e_end ?_
      refine renew [(2, (encO (.at 2 []) (.of (out_34 : List Int))))] (hg_4 2 (encO (.at 3 []) (.of (out_34 : List Int))) (encO (.at 2 []) (.of (out_34 : List Int))) rfl (map_encO (r := 3) (p := []) rfl rfl)) ?_
      rintro s h2
      refine .nsq ?_
      refine .ret ?_
      have hr := Option.some.inj h
      subst hr
      exact rrA (res_tmp h2) (fin_retF (fin_own (o := .of out_34)) (mine_own rfl))
def s_l7Rests (F : Nat) (g_1 : (Int × (List (Int × Int)))) : Option (List Int) :=
  (shlI .i64 1 g_1.1).bind fun q_2 =>
  (mkN q_2 (0 : Int)).bind fun mk_3 =>
  s_l7Rests_l2 F g_1 F mk_3 (w64 ((mk_3.length : Int) - 2))
theorem t85 (H : H85 D σ F) (g_1 : (Int × (List (Int × Int)))) (s : Nat → V) (hs : Facts [(0, (.agg [(.int .i64 g_1.1), (Enc.enc (g_1.2 : List (Int × Int)))]))] s) (h : s_l7Rests F g_1 = some r) : Run D σ (R85 r) (.run A85 []) s := by
  unfold s_l7Rests at h
  have h0 := hs
  refine .seq ?_
  refine run_reg ?_
  refine e_clr ?_
  refine e_end ?_
  refine g_box (.agg [(.int .i64 g_1.1), (Enc.enc (g_1.2 : List (Int × Int)))]) (rd_of (keep_clear (s := s) (pk := [1]) h0 rfl (map_agg (maps_cons rfl (maps_cons (Enc.map_enc _ (g_1.2 : List (Int × Int))) maps_nil)))) rfl) (gone_clear (s := s) (pk := [1]) (t := 1) rfl) rfl ?_
  refine g_v0 (.sl .nl (Enc.shp Int) 0 []) rfl rfl ?_
  refine g_end ?_
  refine e_end ?_
  refine renew [(1, (.ref (.bx 1) 0 [] (.agg [(.int .i64 g_1.1), (Enc.enc (g_1.2 : List (Int × Int)))]))), (2, (.sl .nl (Enc.shp Int) 0 []))] ⟨rfl, rfl⟩ ?_
  rintro s ⟨h1, h2⟩
  refine .nsq ?_
  refine .seq ?_
  refine run_reg ?_
  refine e_clr ?_
  refine e_end ?_
  refine g_v1 (t := 1) (u := (.ref (.bx 1) 0 [] (.agg [(.int .i64 g_1.1), (Enc.enc (g_1.2 : List (Int × Int)))]))) (.ref (.bx 1) 0 [0] (.int .i64 g_1.1)) (keep_clear (s := s) (pk := [11]) h1 rfl (map_bx rfl (map_agg (maps_cons rfl (maps_cons (Enc.map_enc _ (g_1.2 : List (Int × Int))) maps_nil))))) rfl rfl ?_
  refine g_v1 (t := 8) (u := (.ref (.bx 1) 0 [0] (.int .i64 g_1.1))) (.int .i64 g_1.1) rfl rfl rfl ?_
  obtain ⟨q_2, E_q_2, h⟩ := bind_some h
  refine g_v (.int .i64 q_2) (ev_shl rfl rfl E_q_2) ?_
  obtain ⟨mk_3, E_mk_3, h⟩ := bind_some h
  refine g_mk (0 : Int) rfl rfl (gone_clear (s := s) (pk := [11]) (t := 11) rfl) E_mk_3 ?_
  refine g_v1 (t := 11) (u := (encO (.at 11 []) (.of (mk_3 : List Int)))) (encO (.at 11 []) (.of (mk_3 : List Int))) rfl rfl rfl ?_
  refine g_end ?_
  refine e_home (r := 11) (x := 3) (v := (encO (.at 11 []) (.of (mk_3 : List Int)))) (by exact rfl) rfl (fun s_3 hg_3 => ?_)
  refine e_end ?_
  refine renew [(1, (.ref (.bx 1) 0 [] (.agg [(.int .i64 g_1.1), (Enc.enc (g_1.2 : List (Int × Int)))]))), (2, (.sl .nl (Enc.shp Int) 0 [])), (3, (encO (.at 3 []) (.of (mk_3 : List Int))))] ⟨(hg_3 1 (.ref (.bx 1) 0 [] (.agg [(.int .i64 g_1.1), (Enc.enc (g_1.2 : List (Int × Int)))])) (.ref (.bx 1) 0 [] (.agg [(.int .i64 g_1.1), (Enc.enc (g_1.2 : List (Int × Int)))])) (keep_clear (s := s) (pk := [11]) h1 rfl (map_bx rfl (map_agg (maps_cons rfl (maps_cons (Enc.map_enc _ (g_1.2 : List (Int × Int))) maps_nil))))) (map_bx rfl (map_agg (maps_cons rfl (maps_cons (Enc.map_enc _ (g_1.2 : List (Int × Int))) maps_nil))))), (hg_3 2 (.sl .nl (Enc.shp Int) 0 []) (.sl .nl (Enc.shp Int) 0 []) (keep_clear (s := s) (pk := [11]) h2 rfl rfl) rfl), (hg_3 3 (encO (.at 11 []) (.of (mk_3 : List Int))) (encO (.at 3 []) (.of (mk_3 : List Int))) rfl (map_encO (r := 11) (p := []) rfl rfl))⟩ ?_
  rintro s ⟨h1, h2, h3⟩
  refine .nsq ?_
  refine .seq ?_
  refine .seq ?_
  refine run_reg ?_
  refine e_end ?_
  refine g_v1 (t := 3) (u := (encO (.at 3 []) (.of (mk_3 : List Int)))) (encO (.at 3 []) (.of (mk_3 : List Int))) h3 rfl rfl ?_
  refine g_v (.int .i64 (mk_3.length : Int)) (ev_lenO (o := .of mk_3) rfl) ?_
  refine g_v1 (t := 13) (u := (.int .i64 (mk_3.length : Int))) (.int .i64 (w64 ((mk_3.length : Int) - 2))) rfl rfl rfl ?_
  refine g_v1 (t := 14) (u := (.int .i64 (w64 ((mk_3.length : Int) - 2)))) (.int .i64 (w64 ((mk_3.length : Int) - 2))) rfl rfl rfl ?_
  refine g_end ?_
  refine e_end ?_
  refine renew [(1, (.ref (.bx 1) 0 [] (.agg [(.int .i64 g_1.1), (Enc.enc (g_1.2 : List (Int × Int)))]))), (2, (.sl .nl (Enc.shp Int) 0 [])), (3, (encO (.at 3 []) (.of (mk_3 : List Int)))), (4, (.int .i64 (w64 ((mk_3.length : Int) - 2))))] ⟨h1, h2, h3, rfl⟩ ?_
  rintro s ⟨h1, h2, h3, h4⟩
  refine .nsq ?_
  refine .block ?_
  refine .loop ?_
  exact t_f85_l2 H g_1 F mk_3 (w64 ((mk_3.length : Int) - 2)) _ ⟨h1, h2, h3, h4⟩ h
end
def e85 (F : Nat) : Ent := ⟨85, da (fun (x : ((Int × (List (Int × Int))) × Unit)) => s_l7Rests F x.1) (fun (r : (List Int)) => (Enc.enc (r : (List Int)))), 0, false, selF []⟩
theorem p85 {F : Nat} {x0 : (Int × (List (Int × Int)))} {r : (List Int)} (h : s_l7Rests F x0 = some r) : (e85 F).den [Enc.enc x0] = some (Enc.enc (r : (List Int))) := da_put (f := fun (x : ((Int × (List (Int × Int))) × Unit)) => s_l7Rests F x.1) (t := fun (r : (List Int)) => (Enc.enc (r : (List Int)))) (x0, ()) h
theorem o85 {D : Den} {σ : Sig} {F : Nat} (hF : Fits2 Try.prog D σ) (H : H85 D σ F) : (e85 F).Ok Try.prog := by
  refine ok_of (f := 85) (show unk 85 = 85 from rfl) (fun args r h => ?_) ⟨Try.f85, Try.func85, rfl, rfl⟩
  obtain ⟨⟨x0, _⟩, y, rfl, hy, rfl⟩ := da_open h
  exact contract_run hF (by kernel_rfl) Try.func85 rfl c85 (show 1 ≤ Try.f85.ntmps by decide) (t85 H x0 _ rfl hy)
/- loop.example/g01109/spec.LeastCutwidth -/
def A41_2 : AC := (AC.cond (O.t 20) AC.skip (AC.exit 0))
def A41_6 : AC := (AC.cond (O.t 53) AC.skip (AC.exit 2))
def A41_7 : AC := (AC.block 3 (AC.reg [] [(I.mk (some 54) none false (X.v (A.mov (O.t 8)))), (I.mk (some 55) none false (X.v (A.bin BinOp.add (O.t 54) (O.k (V.int IntKind.i64 (Int.ofNat 1)))))), (I.mk (some 8) none false (X.v (A.mov (O.t 55))))] []))
def A41_5 : AC := (AC.seq (AC.seq (AC.reg [] [(I.mk (some 21) none false (X.v (A.mov (O.t 7)))), (I.mk (some 22) none false (X.v (A.mov (O.t 8)))), (I.mk (some 23) none false (X.v (A.bin BinOp.shr (O.t 21) (O.t 22)))), (I.mk (some 24) none false (X.v (A.bin BinOp.and (O.t 23) (O.k (V.int IntKind.i64 (Int.ofNat 1)))))), (I.mk (some 25) none false (X.v (A.bin BinOp.eql (O.t 24) (O.k (V.int IntKind.i64 (Int.ofNat 1)))))), (I.mk (some 26) none false (X.v (A.mov (O.t 25)))), (I.mk (some 27) (some (26, false)) false (X.v (A.load (Sh.ag [Sh.s, Sh.p]) (O.t 1)))), (I.mk (some 28) (some (26, false)) false (X.v (A.fld (O.t 1) 0 0))), (I.mk (some 29) (some (26, false)) false (X.v (A.load Sh.s (O.t 28)))), (I.mk (some 30) (some (26, false)) false (X.v (A.mov (O.t 7)))), (I.mk (some 31) (some (26, false)) false (X.v (A.mov (O.t 8)))), (I.mk (some 32) (some (26, false)) false (X.v (A.bin BinOp.shl (O.k (V.int IntKind.i64 (Int.ofNat 1))) (O.t 31)))), (I.mk (some 33) (some (26, false)) false (X.v (A.bin BinOp.add (O.t 30) (O.t 32)))), (I.mk (some 34) (some (26, false)) false (X.call (O.k (V.fn 56 [] [])) [(O.t 29), (O.t 33)])), (I.mk (some 35) (some (26, false)) false (X.call (O.k (V.fn 86 [] [])) [(O.t 27), (O.t 34)])), (I.mk (some 36) (some (26, false)) false (X.v (A.mov (O.t 6)))), (I.mk (some 37) (some (26, false)) false (X.v (A.idx (O.t 36) (O.k (V.int IntKind.i64 (Int.ofNat 0))) 1))), (I.mk (some 38) (some (26, false)) false (X.v (A.load Sh.s (O.t 37)))), (I.mk (some 39) (some (26, false)) false (X.v (A.bin BinOp.gtr (O.t 35) (O.t 38)))), (I.mk (some 40) none false (X.v (A.pick (O.t 26) (O.k (V.bool true)) (O.t 39)))), (I.mk (some 41) none false (X.v (A.mov (O.t 40)))), (I.mk (some 42) (some (41, false)) false (X.v (A.mov (O.t 6)))), (I.mk (some 43) (some (41, false)) false (X.v (A.mov (O.t 7)))), (I.mk (some 44) (some (41, false)) false (X.v (A.mov (O.t 8)))), (I.mk (some 45) (some (41, false)) false (X.v (A.bin BinOp.shl (O.k (V.int IntKind.i64 (Int.ofNat 1))) (O.t 44)))), (I.mk (some 46) (some (41, false)) false (X.v (A.bin BinOp.add (O.t 43) (O.t 45)))), (I.mk (some 47) (some (41, false)) false (X.v (A.idx (O.t 42) (O.t 46) 1))), (I.mk (some 48) (some (41, false)) false (X.v (A.load Sh.s (O.t 47)))), (I.mk (some 49) (some (41, false)) false (X.v (A.mov (O.t 6)))), (I.mk (some 50) (some (41, false)) false (X.v (A.idx (O.t 49) (O.k (V.int IntKind.i64 (Int.ofNat 0))) 1))), (I.mk (some 51) (some (41, false)) false (X.v (A.load Sh.s (O.t 50)))), (I.mk (some 52) (some (41, false)) false (X.v (A.bin BinOp.gtr (O.t 48) (O.t 51)))), (I.mk (some 53) none false (X.v (A.pick (O.t 41) (O.k (V.bool true)) (O.t 52))))] []) A41_6) A41_7)
def A41_9 : AC := (AC.reg [] [(I.mk (some 60) none false (X.v (A.mov (O.t 7)))), (I.mk (some 61) none false (X.v (A.mov (O.t 8)))), (I.mk (some 62) none false (X.v (A.bin BinOp.shl (O.k (V.int IntKind.i64 (Int.ofNat 1))) (O.t 61)))), (I.mk (some 63) none false (X.v (A.bin BinOp.add (O.t 60) (O.t 62)))), (I.mk (some 7) none false (X.v (A.mov (O.t 63))))] [])
def A41_8 : AC := (AC.seq (AC.reg [.clr [58, 59]] [(I.mk (some 56) none false (X.v (A.mov (O.t 5)))), (I.mk (some 57) none false (X.v (A.mov (O.t 8)))), (I.mk (some 58) none false (X.lit (V.int IntKind.i64 (Int.ofNat 0)) 1 [(0, 0, (O.t 57))])), (I.mk (some 59) none false (X.app Sh.s (O.t 56) (O.t 58))), (I.mk (some 5) none false (X.v (A.mov (O.t 59))))] [.home 59 5]) A41_9)
def A41_4 : AC := (AC.seq (AC.block 2 (AC.loop A41_5)) A41_8)
def A41_3 : AC := (AC.block 1 (AC.seq (AC.reg [] [(I.mk (some 8) none false (X.v (A.mov (O.k (V.int IntKind.i64 (Int.ofNat 0))))))] []) A41_4))
def A41_1 : AC := (AC.seq (AC.seq (AC.reg [] [(I.mk (some 16) none false (X.v (A.mov (O.t 5)))), (I.mk (some 17) none false (X.v (A.len (O.t 16)))), (I.mk (some 18) none false (X.v (A.fld (O.t 1) 0 0))), (I.mk (some 19) none false (X.v (A.load Sh.s (O.t 18)))), (I.mk (some 20) none false (X.v (A.bin BinOp.lss (O.t 17) (O.t 19))))] []) A41_2) A41_3)
def A41_10 : AC := (AC.seq (AC.reg [] [(I.mk (some 64) none false (X.v (A.mov (O.t 5)))), (I.mk (some 65) none false (X.v (A.mov (O.t 6)))), (I.mk (some 66) none false (X.v (A.idx (O.t 65) (O.k (V.int IntKind.i64 (Int.ofNat 0))) 1))), (I.mk (some 67) none false (X.v (A.load Sh.s (O.t 66)))), (I.mk (some 2) none false (X.v (A.mov (O.t 64)))), (I.mk (some 3) none false (X.v (A.mov (O.t 67)))), (I.mk (some 4) none false (X.v (A.mov (O.k (V.bool true)))))] [.home 5 2]) AC.ret)
def A41_13 : AC := (AC.cond (O.t 12) (AC.seq (AC.reg [] [(I.mk (some 13) none false (X.v (A.mov (O.t 5)))), (I.mk (some 2) none false (X.v (A.mov (O.t 13)))), (I.mk (some 3) none false (X.v (A.mov (O.k (V.int IntKind.i64 (Int.ofNat 0)))))), (I.mk (some 4) none false (X.v (A.mov (O.k (V.bool false)))))] []) AC.ret) AC.skip)
def A41_16 : AC := (AC.seq (AC.block 0 (AC.loop A41_1)) A41_10)
def A41_15 : AC := (AC.seq (AC.reg [] [(I.mk (some 7) none false (X.v (A.mov (O.k (V.int IntKind.i64 (Int.ofNat 0))))))] []) A41_16)
def A41_14 : AC := (AC.seq (AC.reg [] [(I.mk (some 14) none false (X.v (A.load (Sh.ag [Sh.s, Sh.p]) (O.t 1)))), (I.mk (some 15) none false (X.call (O.k (V.fn 85 [] [])) [(O.t 14)])), (I.mk (some 6) none false (X.v (A.mov (O.t 15))))] []) A41_15)
def A41_12 : AC := (AC.seq (AC.seq (AC.reg [] [(I.mk (some 10) none false (X.v (A.load (Sh.ag [Sh.s, Sh.p]) (O.t 1)))), (I.mk (some 11) none false (X.call (O.k (V.fn 48 [] [])) [(O.t 10)])), (I.mk (some 12) none false (X.v (A.un UnOp.not (O.t 11))))] []) A41_13) A41_14)
def A41_11 : AC := (AC.seq (AC.reg [.clr [9]] [(I.mk (some 9) none false (X.lit (V.int IntKind.i64 (Int.ofNat 0)) 0 [])), (I.mk (some 5) none false (X.v (A.mov (O.t 9))))] [.home 9 5]) A41_12)
def A41 : AC := (AC.seq (AC.reg [.clr [1]] [(I.mk (some 1) none false (X.box (O.t 0))), (I.mk (some 2) none false (X.v (A.mov (O.k (V.sl Tok.nl Sh.s 0 []))))), (I.mk (some 3) none false (X.v (A.mov (O.k (V.int IntKind.i64 (Int.ofNat 0)))))), (I.mk (some 4) none false (X.v (A.mov (O.k (V.bool false)))))] []) A41_11)
def an41 : List An := [{ id := 0, pre := [.clr [1]], ep := [], lin := [], sp := [] }, { id := 1, pre := [.clr [9]], ep := [.home 9 5], lin := [], sp := [] }, { id := 10, pre := [.clr [58, 59]], ep := [.home 59 5], lin := [], sp := [] }, { id := 12, pre := [], ep := [.home 5 2], lin := [], sp := [] }]
theorem c41 : cC Try.prog Try.f41.ntmps an41 (Try.f41.body.getD .skip) = some A41 := by kernel_rfl
structure H41 (D : Den) (σ : Sig) (F : Nat) : Prop where
  c48 : ∀ (x0 : (Int × (List (Int × Int)))) r, s_l2Good F x0 = some r → D 48 [Enc.enc x0] = some (Enc.enc (r : Bool))
  g48 : σ 48 = some (0, false)
  c85 : ∀ (x0 : (Int × (List (Int × Int)))) r, s_l7Rests F x0 = some r → D 85 [Enc.enc x0] = some (Enc.enc (r : (List Int)))
  g85 : σ 85 = some (0, false)
  c56 : ∀ (x0 : Int) (x1 : Int) r, s_l2Bits F x0 x1 = some r → D 56 [Enc.enc x0, Enc.enc x1] = some (Enc.enc (r : (List Int)))
  g56 : σ 56 = some (0, false)
  c86 : ∀ (x0 : (Int × (List (Int × Int)))) (x1 : (List Int)) r, s_l7Cut F x0 x1 = some r → D 86 [Enc.enc x0, Enc.enc x1] = some (Enc.enc (r : Int))
  g86 : σ 86 = some (0, false)
abbrev R41 (r : (S3 (List Int) Int Bool)) : (Nat → V) → Prop := RR Try.prog [.tmp 2, .tmp 3, .tmp 4] 0 false (.tup [Enc.enc (r.a : (List Int)), Enc.enc (r.b : Int), Enc.enc (r.c : Bool)])
section
variable {D : Den} {σ : Sig} {F : Nat} {r : (S3 (List Int) Int Bool)}
def s_LeastCutwidth_j1 (F : Nat) (g_1 : (Int × (List (Int × Int)))) (out_58 : (List Int)) (r_3 : (List Int)) (code_59 : Int) (x_131 : Int) (c1 : (List Int) → Int → Option (S3 (List Int) Int Bool)) (c4 : Int → Option (S3 (List Int) Int Bool)) (t53_157 : Bool) : Option (S3 (List Int) Int Bool) :=
  bif t53_157 then
    c4 (w64 (x_131 + 1))
  else
    (appL out_58 [x_131]).bind fun ap_158 =>
    (shlI .i64 1 x_131).bind fun q_159 =>
    c1 ap_158 (w64 (code_59 + q_159))
theorem t_f41_j1 (H : H41 D σ F) (g_1 : (Int × (List (Int × Int)))) (out_58 : (List Int)) (r_3 : (List Int)) (code_59 : Int) (x_131 : Int) (c1 : (List Int) → Int → Option (S3 (List Int) Int Bool)) (Hc1 : ∀ (out_58 : (List Int)) (code_59 : Int) (s : Nat → V), Facts [(1, (.ref (.bx 1) 0 [] (.agg [(.int .i64 g_1.1), (Enc.enc (g_1.2 : List (Int × Int)))]))), (2, (.sl .nl (Enc.shp Int) 0 [])), (3, (.int .i64 0)), (4, (.bool false)), (5, (encO (.at 5 []) (.of (out_58 : List Int)))), (6, (Enc.enc (r_3 : List Int))), (7, (.int .i64 code_59))] s → c1 out_58 code_59 = some r → Run D σ (R41 r) (.run A41_1 [.lp A41_1, .bk 0, .sq A41_10]) s) (c4 : Int → Option (S3 (List Int) Int Bool)) (Hc4 : ∀ (x_131 : Int) (s : Nat → V), Facts [(1, (.ref (.bx 1) 0 [] (.agg [(.int .i64 g_1.1), (Enc.enc (g_1.2 : List (Int × Int)))]))), (2, (.sl .nl (Enc.shp Int) 0 [])), (3, (.int .i64 0)), (4, (.bool false)), (5, (encO (.at 5 []) (.of (out_58 : List Int)))), (6, (Enc.enc (r_3 : List Int))), (7, (.int .i64 code_59)), (8, (.int .i64 x_131))] s → c4 x_131 = some r → Run D σ (R41 r) (.run A41_5 [.lp A41_5, .bk 2, .sq A41_8, .bk 1, .lp A41_1, .bk 0, .sq A41_10]) s) (t53_157 : Bool) (s : Nat → V) (hs : Facts [(1, (.ref (.bx 1) 0 [] (.agg [(.int .i64 g_1.1), (Enc.enc (g_1.2 : List (Int × Int)))]))), (2, (.sl .nl (Enc.shp Int) 0 [])), (3, (.int .i64 0)), (4, (.bool false)), (5, (encO (.at 5 []) (.of (out_58 : List Int)))), (6, (Enc.enc (r_3 : List Int))), (7, (.int .i64 code_59)), (8, (.int .i64 x_131)), (53, (.bool t53_157))] s) (h : s_LeastCutwidth_j1 F g_1 out_58 r_3 code_59 x_131 c1 c4 t53_157 = some r) : Run D σ (R41 r) (.nrm [.sq A41_6, .sq A41_7, .lp A41_5, .bk 2, .sq A41_8, .bk 1, .lp A41_1, .bk 0, .sq A41_10]) s := by
  unfold s_LeastCutwidth_j1 at h
  obtain ⟨h1, h2, h3, h4, h5, h6, h7, h8, h53⟩ := hs
  refine .nsq ?_
  refine run_cond (t := t53_157) h53 h (fun h => ?_) (fun h => ?_)
  · refine .skip ?_
    refine .nsq ?_
    refine .block ?_
    refine run_reg ?_
    refine e_end ?_
    refine g_v1 (t := 8) (u := (.int .i64 x_131)) (.int .i64 x_131) h8 rfl rfl ?_
    refine g_v1 (t := 54) (u := (.int .i64 x_131)) (.int .i64 (w64 (x_131 + 1))) rfl rfl rfl ?_
    refine g_v1 (t := 55) (u := (.int .i64 (w64 (x_131 + 1)))) (.int .i64 (w64 (x_131 + 1))) rfl rfl rfl ?_
    refine g_end ?_
    refine e_end ?_
    refine renew [(1, (.ref (.bx 1) 0 [] (.agg [(.int .i64 g_1.1), (Enc.enc (g_1.2 : List (Int × Int)))]))), (2, (.sl .nl (Enc.shp Int) 0 [])), (3, (.int .i64 0)), (4, (.bool false)), (5, (encO (.at 5 []) (.of (out_58 : List Int)))), (6, (Enc.enc (r_3 : List Int))), (7, (.int .i64 code_59)), (8, (.int .i64 (w64 (x_131 + 1))))] ⟨h1, h2, h3, h4, h5, h6, h7, rfl⟩ ?_
    rintro s ⟨h1, h2, h3, h4, h5, h6, h7, h8⟩
    refine .nbk ?_
    refine .nlp ?_
    exact Hc4 (w64 (x_131 + 1)) _ ⟨h1, h2, h3, h4, h5, h6, h7, h8⟩ h
  · refine .exit ?_
    refine .esq ?_
    refine .elp ?_
    refine .ebk ?_
    refine .nsq ?_
    refine .seq ?_
    refine run_reg ?_
    refine e_clr ?_
    refine e_end ?_
    refine g_v1 (t := 5) (u := (encO (.at 5 []) (.of (out_58 : List Int)))) (encO (.at 5 []) (.of (out_58 : List Int))) (keep_clear (s := s) (pk := [58, 59]) h5 rfl (map_encO (r := 5) (p := []) rfl rfl)) rfl rfl ?_
    refine g_v1 (t := 8) (u := (.int .i64 x_131)) (.int .i64 x_131) (keep_clear (s := s) (pk := [58, 59]) h8 rfl rfl) rfl rfl ?_
    refine g_litL [(57, (.int .i64 x_131))] [Enc.enc (x_131 : Int)] rfl rfl rfl (gone_clear (s := s) (pk := [58, 59]) (t := 58) rfl) ?_
    obtain ⟨ap_158, E_ap_158, h⟩ := bind_some h
    refine g_app (q := 5) (p := []) (o := (.of (out_58 : List Int))) (ys := ([x_131] : List Int)) (t2 := (.at 58 [])) (lo2 := 0) rfl rfl rfl (gone_clear (s := s) (pk := [58, 59]) (t := 59) rfl) (appN_L (o := (.of (out_58 : List Int))) E_ap_158 trivial) (fun s_11 ha_11 => ?_)
    refine g_v1 (t := 59) (u := (encO (.at 59 []) (.of (ap_158 : List Int)))) (encO (.at 59 []) (.of (ap_158 : List Int))) rfl rfl rfl ?_
    refine g_end ?_
    refine e_home (r := 59) (x := 5) (v := (encO (.at 59 []) (.of (ap_158 : List Int)))) (by exact rfl) rfl (fun s_12 hg_12 => ?_)
    refine e_end ?_
    refine renew [(1, (.ref (.bx 1) 0 [] (.agg [(.int .i64 g_1.1), (Enc.enc (g_1.2 : List (Int × Int)))]))), (2, (.sl .nl (Enc.shp Int) 0 [])), (3, (.int .i64 0)), (4, (.bool false)), (5, (encO (.at 5 []) (.of (ap_158 : List Int)))), (6, (Enc.enc (r_3 : List Int))), (7, (.int .i64 code_59)), (8, (.int .i64 x_131))] ⟨(hg_12 1 (.ref (.bx 1) 0 [] (.agg [(.int .i64 g_1.1), (Enc.enc (g_1.2 : List (Int × Int)))])) (.ref (.bx 1) 0 [] (.agg [(.int .i64 g_1.1), (Enc.enc (g_1.2 : List (Int × Int)))])) (show s_11 1 = (.ref (.bx 1) 0 [] (.agg [(.int .i64 g_1.1), (Enc.enc (g_1.2 : List (Int × Int)))])) from keep_app ha_11 (keep_clear (s := s) (pk := [58, 59]) h1 rfl (map_bx rfl (map_agg (maps_cons rfl (maps_cons (Enc.map_enc _ (g_1.2 : List (Int × Int))) maps_nil))))) (map_bx rfl (map_agg (maps_cons rfl (maps_cons (Enc.map_enc _ (g_1.2 : List (Int × Int))) maps_nil))))) (map_bx rfl (map_agg (maps_cons rfl (maps_cons (Enc.map_enc _ (g_1.2 : List (Int × Int))) maps_nil))))), (hg_12 2 (.sl .nl (Enc.shp Int) 0 []) (.sl .nl (Enc.shp Int) 0 []) (show s_11 2 = (.sl .nl (Enc.shp Int) 0 []) from keep_app ha_11 (keep_clear (s := s) (pk := [58, 59]) h2 rfl rfl) rfl) rfl), (hg_12 3 (.int .i64 0) (.int .i64 0) (show s_11 3 = (.int .i64 0) from keep_app ha_11 (keep_clear (s := s) (pk := [58, 59]) h3 rfl rfl) rfl) rfl), (hg_12 4 (.bool false) (.bool false) (show s_11 4 = (.bool false) from keep_app ha_11 (keep_clear (s := s) (pk := [58, 59]) h4 rfl rfl) rfl) rfl), (hg_12 5 (encO (.at 59 []) (.of (ap_158 : List Int))) (encO (.at 5 []) (.of (ap_158 : List Int))) rfl (map_encO (r := 59) (p := []) rfl rfl)), (hg_12 6 (Enc.enc (r_3 : List Int)) (Enc.enc (r_3 : List Int)) (show s_11 6 = (Enc.enc (r_3 : List Int)) from keep_app ha_11 (keep_clear (s := s) (pk := [58, 59]) h6 rfl (Enc.map_enc _ (r_3 : List Int))) (Enc.map_enc _ (r_3 : List Int))) (Enc.map_enc _ (r_3 : List Int))), (hg_12 7 (.int .i64 code_59) (.int .i64 code_59) (show s_11 7 = (.int .i64 code_59) from keep_app ha_11 (keep_clear (s := s) (pk := [58, 59]) h7 rfl rfl) rfl) rfl), (hg_12 8 (.int .i64 x_131) (.int .i64 x_131) (show s_11 8 = (.int .i64 x_131) from keep_app ha_11 (keep_clear (s := s) (pk := [58, 59]) h8 rfl rfl) rfl) rfl)⟩ ?_
    rintro s ⟨h1, h2, h3, h4, h5, h6, h7, h8⟩
    refine .nsq ?_
    refine run_reg ?_
    refine e_end ?_
    refine g_v1 (t := 7) (u := (.int .i64 code_59)) (.int .i64 code_59) h7 rfl rfl ?_
    refine g_v1 (t := 8) (u := (.int .i64 x_131)) (.int .i64 x_131) h8 rfl rfl ?_
    obtain ⟨q_159, E_q_159, h⟩ := bind_some h
    refine g_v (.int .i64 q_159) (ev_shl rfl rfl E_q_159) ?_
    refine g_v2 (t1 := 60) (t2 := 62) (u1 := (.int .i64 code_59)) (u2 := (.int .i64 q_159)) (.int .i64 (w64 (code_59 + q_159))) rfl rfl rfl rfl ?_
    refine g_v1 (t := 63) (u := (.int .i64 (w64 (code_59 + q_159)))) (.int .i64 (w64 (code_59 + q_159))) rfl rfl rfl ?_
    refine g_end ?_
    refine e_end ?_
    refine renew [(1, (.ref (.bx 1) 0 [] (.agg [(.int .i64 g_1.1), (Enc.enc (g_1.2 : List (Int × Int)))]))), (2, (.sl .nl (Enc.shp Int) 0 [])), (3, (.int .i64 0)), (4, (.bool false)), (5, (encO (.at 5 []) (.of (ap_158 : List Int)))), (6, (Enc.enc (r_3 : List Int))), (7, (.int .i64 (w64 (code_59 + q_159))))] ⟨h1, h2, h3, h4, h5, h6, rfl⟩ ?_
    rintro s ⟨h1, h2, h3, h4, h5, h6, h7⟩
    refine .nbk ?_
    refine .nlp ?_
    exact Hc1 ap_158 (w64 (code_59 + q_159)) _ ⟨h1, h2, h3, h4, h5, h6, h7⟩ h
def s_LeastCutwidth_l1 (F : Nat) (g_1 : (Int × (List (Int × Int)))) (out_58 : (List Int)) (r_3 : (List Int)) (code_59 : Int) (c1 : (List Int) → Int → Option (S3 (List Int) Int Bool)) : Nat → Int → Option (S3 (List Int) Int Bool)
  | 0, _ => none
  | k + 1, x_131 =>
    (shrI .i64 code_59 x_131).bind fun q_160 =>
    bif ((iand .i64 q_160 1) == 1) then
      s_LeastCutwidth_j1 F g_1 out_58 r_3 code_59 x_131 c1 (s_LeastCutwidth_l1 F g_1 out_58 r_3 code_59 c1 k) true
    else
      (shlI .i64 1 x_131).bind fun q_161 =>
      (s_l2Bits F g_1.1 (w64 (code_59 + q_161))).bind fun r_162 =>
      (s_l7Cut F g_1 r_162).bind fun r_163 =>
      (idx r_3 0).bind fun e_164 =>
      bif decide (r_163 > e_164) then
        s_LeastCutwidth_j1 F g_1 out_58 r_3 code_59 x_131 c1 (s_LeastCutwidth_l1 F g_1 out_58 r_3 code_59 c1 k) true
      else
        (shlI .i64 1 x_131).bind fun q_165 =>
        (idx r_3 (w64 (code_59 + q_165))).bind fun e_166 =>
        (idx r_3 0).bind fun e_167 =>
        s_LeastCutwidth_j1 F g_1 out_58 r_3 code_59 x_131 c1 (s_LeastCutwidth_l1 F g_1 out_58 r_3 code_59 c1 k) (decide (e_166 > e_167))
theorem t_f41_l1 (H : H41 D σ F) (g_1 : (Int × (List (Int × Int)))) (out_58 : (List Int)) (r_3 : (List Int)) (code_59 : Int) (c1 : (List Int) → Int → Option (S3 (List Int) Int Bool)) (Hc1 : ∀ (out_58 : (List Int)) (code_59 : Int) (s : Nat → V), Facts [(1, (.ref (.bx 1) 0 [] (.agg [(.int .i64 g_1.1), (Enc.enc (g_1.2 : List (Int × Int)))]))), (2, (.sl .nl (Enc.shp Int) 0 [])), (3, (.int .i64 0)), (4, (.bool false)), (5, (encO (.at 5 []) (.of (out_58 : List Int)))), (6, (Enc.enc (r_3 : List Int))), (7, (.int .i64 code_59))] s → c1 out_58 code_59 = some r → Run D σ (R41 r) (.run A41_1 [.lp A41_1, .bk 0, .sq A41_10]) s) : ∀ (k : Nat) (x_131 : Int) (s : Nat → V), Facts [(1, (.ref (.bx 1) 0 [] (.agg [(.int .i64 g_1.1), (Enc.enc (g_1.2 : List (Int × Int)))]))), (2, (.sl .nl (Enc.shp Int) 0 [])), (3, (.int .i64 0)), (4, (.bool false)), (5, (encO (.at 5 []) (.of (out_58 : List Int)))), (6, (Enc.enc (r_3 : List Int))), (7, (.int .i64 code_59)), (8, (.int .i64 x_131))] s → s_LeastCutwidth_l1 F g_1 out_58 r_3 code_59 c1 k x_131 = some r → Run D σ (R41 r) (.run A41_5 [.lp A41_5, .bk 2, .sq A41_8, .bk 1, .lp A41_1, .bk 0, .sq A41_10]) s := by
  intro k
  induction k with
  | zero => intro x_131 s _ h; exact nomatch (h : (none : Option _) = some r)
  | succ k ih =>
    intro x_131 s hs h
    rw [s_LeastCutwidth_l1] at h
    obtain ⟨h1, h2, h3, h4, h5, h6, h7, h8⟩ := hs
    refine .seq ?_
    refine .seq ?_
    refine run_reg ?_
    refine e_end ?_
    refine g_v1 (t := 7) (u := (.int .i64 code_59)) (.int .i64 code_59) h7 rfl rfl ?_
    refine g_v1 (t := 8) (u := (.int .i64 x_131)) (.int .i64 x_131) h8 rfl rfl ?_
    obtain ⟨q_160, E_q_160, h⟩ := bind_some h
    refine g_v (.int .i64 q_160) (ev_shr rfl rfl E_q_160) ?_
    refine g_v1 (t := 23) (u := (.int .i64 q_160)) (.int .i64 (iand .i64 q_160 1)) rfl rfl rfl ?_
    refine g_v1 (t := 24) (u := (.int .i64 (iand .i64 q_160 1))) (.bool ((iand .i64 q_160 1) == 1)) rfl rfl rfl ?_
    refine g_v1 (t := 25) (u := (.bool ((iand .i64 q_160 1) == 1))) (.bool ((iand .i64 q_160 1) == 1)) rfl rfl rfl ?_
    refine split_on (c := ((iand .i64 q_160 1) == 1)) h (fun hg6 h => ?_) (fun hg6 h => ?_)
    · refine g_no (Eq.trans (b := .bool ((iand .i64 q_160 1) == 1)) rfl (congrArg V.bool hg6)) ?_
      refine g_no (Eq.trans (b := .bool ((iand .i64 q_160 1) == 1)) rfl (congrArg V.bool hg6)) ?_
      refine g_no (Eq.trans (b := .bool ((iand .i64 q_160 1) == 1)) rfl (congrArg V.bool hg6)) ?_
      refine g_no (Eq.trans (b := .bool ((iand .i64 q_160 1) == 1)) rfl (congrArg V.bool hg6)) ?_
      refine g_no (Eq.trans (b := .bool ((iand .i64 q_160 1) == 1)) rfl (congrArg V.bool hg6)) ?_
      refine g_no (Eq.trans (b := .bool ((iand .i64 q_160 1) == 1)) rfl (congrArg V.bool hg6)) ?_
      refine g_no (Eq.trans (b := .bool ((iand .i64 q_160 1) == 1)) rfl (congrArg V.bool hg6)) ?_
      refine g_no (Eq.trans (b := .bool ((iand .i64 q_160 1) == 1)) rfl (congrArg V.bool hg6)) ?_
      refine g_no (Eq.trans (b := .bool ((iand .i64 q_160 1) == 1)) rfl (congrArg V.bool hg6)) ?_
      refine g_no (Eq.trans (b := .bool ((iand .i64 q_160 1) == 1)) rfl (congrArg V.bool hg6)) ?_
      refine g_no (Eq.trans (b := .bool ((iand .i64 q_160 1) == 1)) rfl (congrArg V.bool hg6)) ?_
      refine g_no (Eq.trans (b := .bool ((iand .i64 q_160 1) == 1)) rfl (congrArg V.bool hg6)) ?_
      refine g_no (Eq.trans (b := .bool ((iand .i64 q_160 1) == 1)) rfl (congrArg V.bool hg6)) ?_
      refine g_v2 (t1 := 26) (t2 := 39) (u1 := (.bool true)) (u2 := (.tup [])) (.bool true) (Eq.trans (b := .bool ((iand .i64 q_160 1) == 1)) rfl (congrArg V.bool hg6)) rfl rfl rfl ?_
      refine g_v1 (t := 40) (u := (.bool true)) (.bool true) rfl rfl rfl ?_
      refine g_no rfl ?_
      refine g_no rfl ?_
      refine g_no rfl ?_
      refine g_no rfl ?_
      refine g_no rfl ?_
      refine g_no rfl ?_
      refine g_no rfl ?_
      refine g_no rfl ?_
      refine g_no rfl ?_
      refine g_no rfl ?_
      refine g_no rfl ?_
      refine g_v2 (t1 := 41) (t2 := 52) (u1 := (.bool true)) (u2 := (.tup [])) (.bool true) rfl rfl rfl rfl ?_
      refine g_end ?_
      refine e_end ?_
      refine renew [(1, (.ref (.bx 1) 0 [] (.agg [(.int .i64 g_1.1), (Enc.enc (g_1.2 : List (Int × Int)))]))), (2, (.sl .nl (Enc.shp Int) 0 [])), (3, (.int .i64 0)), (4, (.bool false)), (5, (encO (.at 5 []) (.of (out_58 : List Int)))), (6, (Enc.enc (r_3 : List Int))), (7, (.int .i64 code_59)), (8, (.int .i64 x_131)), (53, (.bool true))] ⟨h1, h2, h3, h4, h5, h6, h7, h8, rfl⟩ ?_
      rintro s ⟨h1, h2, h3, h4, h5, h6, h7, h8, h53⟩
      exact t_f41_j1 H g_1 out_58 r_3 code_59 x_131 c1 Hc1 (s_LeastCutwidth_l1 F g_1 out_58 r_3 code_59 c1 k) ih true _ ⟨h1, h2, h3, h4, h5, h6, h7, h8, h53⟩ h
    · refine g_yes (Eq.trans (b := .bool ((iand .i64 q_160 1) == 1)) rfl (congrArg V.bool hg6)) (g_v1 (t := 1) (u := (.ref (.bx 1) 0 [] (.agg [(.int .i64 g_1.1), (Enc.enc (g_1.2 : List (Int × Int)))]))) (.agg [(.int .i64 g_1.1), (Enc.enc (g_1.2 : List (Int × Int)))]) h1 rfl rfl ?_)
      refine g_yes (Eq.trans (b := .bool ((iand .i64 q_160 1) == 1)) rfl (congrArg V.bool hg6)) (g_v1 (t := 1) (u := (.ref (.bx 1) 0 [] (.agg [(.int .i64 g_1.1), (Enc.enc (g_1.2 : List (Int × Int)))]))) (.ref (.bx 1) 0 [0] (.int .i64 g_1.1)) h1 rfl rfl ?_)
      refine g_yes (Eq.trans (b := .bool ((iand .i64 q_160 1) == 1)) rfl (congrArg V.bool hg6)) (g_v1 (t := 28) (u := (.ref (.bx 1) 0 [0] (.int .i64 g_1.1))) (.int .i64 g_1.1) rfl rfl rfl ?_)
      refine g_yes (Eq.trans (b := .bool ((iand .i64 q_160 1) == 1)) rfl (congrArg V.bool hg6)) (g_v1 (t := 7) (u := (.int .i64 code_59)) (.int .i64 code_59) h7 rfl rfl ?_)
      refine g_yes (Eq.trans (b := .bool ((iand .i64 q_160 1) == 1)) rfl (congrArg V.bool hg6)) (g_v1 (t := 8) (u := (.int .i64 x_131)) (.int .i64 x_131) h8 rfl rfl ?_)
      obtain ⟨q_161, E_q_161, h⟩ := bind_some h
      refine g_yes (Eq.trans (b := .bool ((iand .i64 q_160 1) == 1)) rfl (congrArg V.bool hg6)) (g_v (.int .i64 q_161) (ev_shl rfl rfl E_q_161) ?_)
      refine g_yes (Eq.trans (b := .bool ((iand .i64 q_160 1) == 1)) rfl (congrArg V.bool hg6)) (g_v2 (t1 := 30) (t2 := 32) (u1 := (.int .i64 code_59)) (u2 := (.int .i64 q_161)) (.int .i64 (w64 (code_59 + q_161))) rfl rfl rfl rfl ?_)
      obtain ⟨r_162, E_r_162, h⟩ := bind_some h
      refine g_yes (Eq.trans (b := .bool ((iand .i64 q_160 1) == 1)) rfl (congrArg V.bool hg6)) (g_call (m := 0) (al := false) (r := (Enc.enc (r_162 : (List Int)))) [Enc.enc (g_1.1 : Int), Enc.enc (w64 (code_59 + q_161) : Int)] (ta_cons (v := (.int .i64 g_1.1)) rfl rfl rfl (ta_cons (v := (.int .i64 (w64 (code_59 + q_161)))) rfl rfl rfl ta_nil)) (H.c56 _ _ _ E_r_162) H.g56 rfl rfl rfl rfl ?_)
      obtain ⟨r_163, E_r_163, h⟩ := bind_some h
      refine g_yes (Eq.trans (b := .bool ((iand .i64 q_160 1) == 1)) rfl (congrArg V.bool hg6)) (g_call (m := 0) (al := false) (r := (Enc.enc (r_163 : Int))) [Enc.enc (g_1 : (Int × (List (Int × Int)))), Enc.enc (r_162 : (List Int))] (ta_cons (v := (.agg [(.int .i64 g_1.1), (Enc.enc (g_1.2 : List (Int × Int)))])) rfl rfl (Enc.erase_enc (g_1 : (Int × (List (Int × Int))))) (ta_cons (v := (Enc.enc (r_162 : List Int))) rfl rfl (Enc.erase_enc (r_162 : (List Int))) ta_nil)) (H.c86 _ _ _ E_r_163) H.g86 rfl rfl rfl rfl ?_)
      refine g_yes (Eq.trans (b := .bool ((iand .i64 q_160 1) == 1)) rfl (congrArg V.bool hg6)) (g_v1 (t := 6) (u := (Enc.enc (r_3 : List Int))) (Enc.enc (r_3 : List Int)) h6 rfl rfl ?_)
      obtain ⟨e_164, E_e_164, h⟩ := bind_some h
      refine g_yes (Eq.trans (b := .bool ((iand .i64 q_160 1) == 1)) rfl (congrArg V.bool hg6)) (g_v (.ref .sh 0 [] (.int .i64 e_164)) (ev_idx (t := .sh) (lo := 0) (xs := r_3) rfl rfl E_e_164 rfl rfl) ?_)
      refine g_yes (Eq.trans (b := .bool ((iand .i64 q_160 1) == 1)) rfl (congrArg V.bool hg6)) (g_v1 (t := 37) (u := (.ref .sh 0 [] (.int .i64 e_164))) (.int .i64 e_164) rfl rfl rfl ?_)
      refine g_yes (Eq.trans (b := .bool ((iand .i64 q_160 1) == 1)) rfl (congrArg V.bool hg6)) (g_v2 (t1 := 35) (t2 := 38) (u1 := (.int .i64 r_163)) (u2 := (.int .i64 e_164)) (.bool (decide (r_163 > e_164))) rfl rfl rfl rfl ?_)
      refine g_v2 (t1 := 26) (t2 := 39) (u1 := (.bool false)) (u2 := (.bool (decide (r_163 > e_164)))) (.bool (decide (r_163 > e_164))) (Eq.trans (b := .bool ((iand .i64 q_160 1) == 1)) rfl (congrArg V.bool hg6)) rfl rfl rfl ?_
      refine g_v1 (t := 40) (u := (.bool (decide (r_163 > e_164)))) (.bool (decide (r_163 > e_164))) rfl rfl rfl ?_
      refine split_on (c := decide (r_163 > e_164)) h (fun hg21 h => ?_) (fun hg21 h => ?_)
      · refine g_no (Eq.trans (b := .bool (decide (r_163 > e_164))) rfl (congrArg V.bool hg21)) ?_
        refine g_no (Eq.trans (b := .bool (decide (r_163 > e_164))) rfl (congrArg V.bool hg21)) ?_
        refine g_no (Eq.trans (b := .bool (decide (r_163 > e_164))) rfl (congrArg V.bool hg21)) ?_
        refine g_no (Eq.trans (b := .bool (decide (r_163 > e_164))) rfl (congrArg V.bool hg21)) ?_
        refine g_no (Eq.trans (b := .bool (decide (r_163 > e_164))) rfl (congrArg V.bool hg21)) ?_
        refine g_no (Eq.trans (b := .bool (decide (r_163 > e_164))) rfl (congrArg V.bool hg21)) ?_
        refine g_no (Eq.trans (b := .bool (decide (r_163 > e_164))) rfl (congrArg V.bool hg21)) ?_
        refine g_no (Eq.trans (b := .bool (decide (r_163 > e_164))) rfl (congrArg V.bool hg21)) ?_
        refine g_no (Eq.trans (b := .bool (decide (r_163 > e_164))) rfl (congrArg V.bool hg21)) ?_
        refine g_no (Eq.trans (b := .bool (decide (r_163 > e_164))) rfl (congrArg V.bool hg21)) ?_
        refine g_no (Eq.trans (b := .bool (decide (r_163 > e_164))) rfl (congrArg V.bool hg21)) ?_
        refine g_v2 (t1 := 41) (t2 := 52) (u1 := (.bool true)) (u2 := (.tup [])) (.bool true) (Eq.trans (b := .bool (decide (r_163 > e_164))) rfl (congrArg V.bool hg21)) rfl rfl rfl ?_
        refine g_end ?_
        refine e_end ?_
        refine renew [(1, (.ref (.bx 1) 0 [] (.agg [(.int .i64 g_1.1), (Enc.enc (g_1.2 : List (Int × Int)))]))), (2, (.sl .nl (Enc.shp Int) 0 [])), (3, (.int .i64 0)), (4, (.bool false)), (5, (encO (.at 5 []) (.of (out_58 : List Int)))), (6, (Enc.enc (r_3 : List Int))), (7, (.int .i64 code_59)), (8, (.int .i64 x_131)), (53, (.bool true))] ⟨h1, h2, h3, h4, h5, h6, h7, h8, rfl⟩ ?_
        rintro s ⟨h1, h2, h3, h4, h5, h6, h7, h8, h53⟩
        exact t_f41_j1 H g_1 out_58 r_3 code_59 x_131 c1 Hc1 (s_LeastCutwidth_l1 F g_1 out_58 r_3 code_59 c1 k) ih true _ ⟨h1, h2, h3, h4, h5, h6, h7, h8, h53⟩ h
      · refine g_yes (Eq.trans (b := .bool (decide (r_163 > e_164))) rfl (congrArg V.bool hg21)) (g_v1 (t := 6) (u := (Enc.enc (r_3 : List Int))) (Enc.enc (r_3 : List Int)) h6 rfl rfl ?_)
        refine g_yes (Eq.trans (b := .bool (decide (r_163 > e_164))) rfl (congrArg V.bool hg21)) (g_v1 (t := 7) (u := (.int .i64 code_59)) (.int .i64 code_59) h7 rfl rfl ?_)
        refine g_yes (Eq.trans (b := .bool (decide (r_163 > e_164))) rfl (congrArg V.bool hg21)) (g_v1 (t := 8) (u := (.int .i64 x_131)) (.int .i64 x_131) h8 rfl rfl ?_)
        obtain ⟨q_165, E_q_165, h⟩ := bind_some h
        refine g_yes (Eq.trans (b := .bool (decide (r_163 > e_164))) rfl (congrArg V.bool hg21)) (g_v (.int .i64 q_165) (ev_shl rfl rfl E_q_165) ?_)
        refine g_yes (Eq.trans (b := .bool (decide (r_163 > e_164))) rfl (congrArg V.bool hg21)) (g_v2 (t1 := 43) (t2 := 45) (u1 := (.int .i64 code_59)) (u2 := (.int .i64 q_165)) (.int .i64 (w64 (code_59 + q_165))) rfl rfl rfl rfl ?_)
        obtain ⟨e_166, E_e_166, h⟩ := bind_some h
        refine g_yes (Eq.trans (b := .bool (decide (r_163 > e_164))) rfl (congrArg V.bool hg21)) (g_v (.ref .sh 0 [] (.int .i64 e_166)) (ev_idx (t := .sh) (lo := 0) (xs := r_3) rfl rfl E_e_166 rfl rfl) ?_)
        refine g_yes (Eq.trans (b := .bool (decide (r_163 > e_164))) rfl (congrArg V.bool hg21)) (g_v1 (t := 47) (u := (.ref .sh 0 [] (.int .i64 e_166))) (.int .i64 e_166) rfl rfl rfl ?_)
        refine g_yes (Eq.trans (b := .bool (decide (r_163 > e_164))) rfl (congrArg V.bool hg21)) (g_v1 (t := 6) (u := (Enc.enc (r_3 : List Int))) (Enc.enc (r_3 : List Int)) h6 rfl rfl ?_)
        obtain ⟨e_167, E_e_167, h⟩ := bind_some h
        refine g_yes (Eq.trans (b := .bool (decide (r_163 > e_164))) rfl (congrArg V.bool hg21)) (g_v (.ref .sh 0 [] (.int .i64 e_167)) (ev_idx (t := .sh) (lo := 0) (xs := r_3) rfl rfl E_e_167 rfl rfl) ?_)
        refine g_yes (Eq.trans (b := .bool (decide (r_163 > e_164))) rfl (congrArg V.bool hg21)) (g_v1 (t := 50) (u := (.ref .sh 0 [] (.int .i64 e_167))) (.int .i64 e_167) rfl rfl rfl ?_)
        refine g_yes (Eq.trans (b := .bool (decide (r_163 > e_164))) rfl (congrArg V.bool hg21)) (g_v2 (t1 := 48) (t2 := 51) (u1 := (.int .i64 e_166)) (u2 := (.int .i64 e_167)) (.bool (decide (e_166 > e_167))) rfl rfl rfl rfl ?_)
        refine g_v2 (t1 := 41) (t2 := 52) (u1 := (.bool false)) (u2 := (.bool (decide (e_166 > e_167)))) (.bool (decide (e_166 > e_167))) (Eq.trans (b := .bool (decide (r_163 > e_164))) rfl (congrArg V.bool hg21)) rfl rfl rfl ?_
        refine g_end ?_
        refine e_end ?_
        refine renew [(1, (.ref (.bx 1) 0 [] (.agg [(.int .i64 g_1.1), (Enc.enc (g_1.2 : List (Int × Int)))]))), (2, (.sl .nl (Enc.shp Int) 0 [])), (3, (.int .i64 0)), (4, (.bool false)), (5, (encO (.at 5 []) (.of (out_58 : List Int)))), (6, (Enc.enc (r_3 : List Int))), (7, (.int .i64 code_59)), (8, (.int .i64 x_131)), (53, (.bool (decide (e_166 > e_167))))] ⟨h1, h2, h3, h4, h5, h6, h7, h8, rfl⟩ ?_
        rintro s ⟨h1, h2, h3, h4, h5, h6, h7, h8, h53⟩
        exact t_f41_j1 H g_1 out_58 r_3 code_59 x_131 c1 Hc1 (s_LeastCutwidth_l1 F g_1 out_58 r_3 code_59 c1 k) ih (decide (e_166 > e_167)) _ ⟨h1, h2, h3, h4, h5, h6, h7, h8, h53⟩ h
def s_LeastCutwidth_l2 (F : Nat) (g_1 : (Int × (List (Int × Int)))) (r_3 : (List Int))  : Nat → (List Int) → Int → Option (S3 (List Int) Int Bool)
  | 0, _, _ => none
  | k + 1, out_58, code_59 =>
    bif decide ((out_58.length : Int) < g_1.1) then
      s_LeastCutwidth_l1 F g_1 out_58 r_3 code_59 (s_LeastCutwidth_l2 F g_1 r_3 k) F 0
    else
      (idx r_3 0).bind fun e_168 =>
      some (S3.mk out_58 e_168 true)
theorem t_f41_l2 (H : H41 D σ F) (g_1 : (Int × (List (Int × Int)))) (r_3 : (List Int))  : ∀ (k : Nat) (out_58 : (List Int)) (code_59 : Int) (s : Nat → V), Facts [(1, (.ref (.bx 1) 0 [] (.agg [(.int .i64 g_1.1), (Enc.enc (g_1.2 : List (Int × Int)))]))), (2, (.sl .nl (Enc.shp Int) 0 [])), (3, (.int .i64 0)), (4, (.bool false)), (5, (encO (.at 5 []) (.of (out_58 : List Int)))), (6, (Enc.enc (r_3 : List Int))), (7, (.int .i64 code_59))] s → s_LeastCutwidth_l2 F g_1 r_3 k out_58 code_59 = some r → Run D σ (R41 r) (.run A41_1 [.lp A41_1, .bk 0, .sq A41_10]) s := by
  intro k
  induction k with
  | zero => intro out_58 code_59 s _ h; exact nomatch (h : (none : Option _) = some r)
  | succ k ih =>
    intro out_58 code_59 s hs h
    rw [s_LeastCutwidth_l2] at h
    obtain ⟨h1, h2, h3, h4, h5, h6, h7⟩ := hs
    refine .seq ?_
    refine .seq ?_
    refine run_reg ?_
    refine e_end ?_
    refine g_v1 (t := 5) (u := (encO (.at 5 []) (.of (out_58 : List Int)))) (encO (.at 5 []) (.of (out_58 : List Int))) h5 rfl rfl ?_
    refine g_v (.int .i64 (out_58.length : Int)) (ev_lenO (o := .of out_58) rfl) ?_
    refine g_v1 (t := 1) (u := (.ref (.bx 1) 0 [] (.agg [(.int .i64 g_1.1), (Enc.enc (g_1.2 : List (Int × Int)))]))) (.ref (.bx 1) 0 [0] (.int .i64 g_1.1)) h1 rfl rfl ?_
    refine g_v1 (t := 18) (u := (.ref (.bx 1) 0 [0] (.int .i64 g_1.1))) (.int .i64 g_1.1) rfl rfl rfl ?_
    refine g_v2 (t1 := 17) (t2 := 19) (u1 := (.int .i64 (out_58.length : Int))) (u2 := (.int .i64 g_1.1)) (.bool (decide ((out_58.length : Int) < g_1.1))) rfl rfl rfl rfl ?_
    refine g_end ?_
    refine e_end ?_
    refine renew [(1, (.ref (.bx 1) 0 [] (.agg [(.int .i64 g_1.1), (Enc.enc (g_1.2 : List (Int × Int)))]))), (2, (.sl .nl (Enc.shp Int) 0 [])), (3, (.int .i64 0)), (4, (.bool false)), (5, (encO (.at 5 []) (.of (out_58 : List Int)))), (6, (Enc.enc (r_3 : List Int))), (7, (.int .i64 code_59)), (20, (.bool (decide ((out_58.length : Int) < g_1.1))))] ⟨h1, h2, h3, h4, h5, h6, h7, rfl⟩ ?_
    rintro s ⟨h1, h2, h3, h4, h5, h6, h7, h20⟩
    refine .nsq ?_
    refine run_cond (t := decide ((out_58.length : Int) < g_1.1)) h20 h (fun h => ?_) (fun h => ?_)
    · refine .skip ?_
      refine .nsq ?_
      refine .block ?_
      refine .seq ?_
      refine run_reg ?_
      refine e_end ?_
      refine g_v0 (.int .i64 0) rfl rfl ?_
      refine g_end ?_
      refine e_end ?_
      refine renew [(1, (.ref (.bx 1) 0 [] (.agg [(.int .i64 g_1.1), (Enc.enc (g_1.2 : List (Int × Int)))]))), (2, (.sl .nl (Enc.shp Int) 0 [])), (3, (.int .i64 0)), (4, (.bool false)), (5, (encO (.at 5 []) (.of (out_58 : List Int)))), (6, (Enc.enc (r_3 : List Int))), (7, (.int .i64 code_59)), (8, (.int .i64 0))] ⟨h1, h2, h3, h4, h5, h6, h7, rfl⟩ ?_
      rintro s ⟨h1, h2, h3, h4, h5, h6, h7, h8⟩
      refine .nsq ?_
      refine .seq ?_
      refine .block ?_
      refine .loop ?_
      exact t_f41_l1 H g_1 out_58 r_3 code_59 (s_LeastCutwidth_l2 F g_1 r_3 k) ih F 0 _ ⟨h1, h2, h3, h4, h5, h6, h7, h8⟩ h
    · refine .exit ?_
      refine .esq ?_
      refine .elp ?_
      refine .ebk ?_
      refine .nsq ?_
      refine .seq ?_
      refine run_reg ?_
      refine e_end ?_
      refine g_v1 (t := 5) (u := (encO (.at 5 []) (.of (out_58 : List Int)))) (encO (.at 5 []) (.of (out_58 : List Int))) h5 rfl rfl ?_
      refine g_v1 (t := 6) (u := (Enc.enc (r_3 : List Int))) (Enc.enc (r_3 : List Int)) h6 rfl rfl ?_
      obtain ⟨e_168, E_e_168, h⟩ := bind_some h
      refine g_v (.ref .sh 0 [] (.int .i64 e_168)) (ev_idx (t := .sh) (lo := 0) (xs := r_3) rfl rfl E_e_168 rfl rfl) ?_
      refine g_v1 (t := 66) (u := (.ref .sh 0 [] (.int .i64 e_168))) (.int .i64 e_168) rfl rfl rfl ?_
      refine g_v1 (t := 64) (u := (encO (.at 5 []) (.of (out_58 : List Int)))) (encO (.at 5 []) (.of (out_58 : List Int))) rfl rfl rfl ?_
      refine g_v1 (t := 67) (u := (.int .i64 e_168)) (.int .i64 e_168) rfl rfl rfl ?_
      refine g_v0 (.bool true) rfl rfl ?_
      refine g_end ?_
      refine e_home (r := 5) (x := 2) (v := (encO (.at 5 []) (.of (out_58 : List Int)))) (by exact rfl) rfl (fun s_13 hg_13 => ?_)
      refine e_end ?_
      refine renew [(2, (encO (.at 2 []) (.of (out_58 : List Int)))), (3, (.int .i64 e_168)), (4, (.bool true))] ⟨(hg_13 2 (encO (.at 5 []) (.of (out_58 : List Int))) (encO (.at 2 []) (.of (out_58 : List Int))) rfl (map_encO (r := 5) (p := []) rfl rfl)), (hg_13 3 (.int .i64 e_168) (.int .i64 e_168) rfl rfl), (hg_13 4 (.bool true) (.bool true) rfl rfl)⟩ ?_
      rintro s ⟨h2, h3, h4⟩
      refine .nsq ?_
      refine .ret ?_
      have hr := Option.some.inj h
      subst hr
      exact rrC (res_tmp h2) (res_tmp h3) (res_tmp h4) (fin_retF (fin_tup (fins_cons (fin_own (o := .of out_58)) (fins_cons (fin_enc (x := (e_168 : Int))) (fins_cons (fin_enc (x := (true : Bool))) fins_nil)))) (mine_tup (mines_cons (mine_own rfl) (mines_cons rfl (mines_cons rfl mines_nil)))))
def s_LeastCutwidth (F : Nat) (g_1 : (Int × (List (Int × Int)))) : Option (S3 (List Int) Int Bool) :=
  (s_l2Good F g_1).bind fun r_2 =>
  bif (!r_2) then
    some (S3.mk [] 0 false)
  else
    (s_l7Rests F g_1).bind fun r_3 =>
    s_LeastCutwidth_l2 F g_1 r_3 F [] 0
theorem t41 (H : H41 D σ F) (g_1 : (Int × (List (Int × Int)))) (s : Nat → V) (hs : Facts [(0, (.agg [(.int .i64 g_1.1), (Enc.enc (g_1.2 : List (Int × Int)))]))] s) (h : s_LeastCutwidth F g_1 = some r) : Run D σ (R41 r) (.run A41 []) s := by
  unfold s_LeastCutwidth at h
  have h0 := hs
  refine .seq ?_
  refine run_reg ?_
  refine e_clr ?_
  refine e_end ?_
  refine g_box (.agg [(.int .i64 g_1.1), (Enc.enc (g_1.2 : List (Int × Int)))]) (rd_of (keep_clear (s := s) (pk := [1]) h0 rfl (map_agg (maps_cons rfl (maps_cons (Enc.map_enc _ (g_1.2 : List (Int × Int))) maps_nil)))) rfl) (gone_clear (s := s) (pk := [1]) (t := 1) rfl) rfl ?_
  refine g_v0 (.sl .nl (Enc.shp Int) 0 []) rfl rfl ?_
  refine g_v0 (.int .i64 0) rfl rfl ?_
  refine g_v0 (.bool false) rfl rfl ?_
  refine g_end ?_
  refine e_end ?_
  refine renew [(1, (.ref (.bx 1) 0 [] (.agg [(.int .i64 g_1.1), (Enc.enc (g_1.2 : List (Int × Int)))]))), (2, (.sl .nl (Enc.shp Int) 0 [])), (3, (.int .i64 0)), (4, (.bool false))] ⟨rfl, rfl, rfl, rfl⟩ ?_
  rintro s ⟨h1, h2, h3, h4⟩
  refine .nsq ?_
  refine .seq ?_
  refine run_reg ?_
  refine e_clr ?_
  refine e_end ?_
  refine g_litL [] [] trivial rfl rfl (gone_clear (s := s) (pk := [9]) (t := 9) rfl) ?_
  refine g_v1 (t := 9) (u := (encO (.at 9 []) (.of ([] : List Int)))) (encO (.at 9 []) (.of ([] : List Int))) rfl rfl rfl ?_
  refine g_end ?_
  refine e_home (r := 9) (x := 5) (v := (encO (.at 9 []) (.of ([] : List Int)))) (by exact rfl) rfl (fun s_3 hg_3 => ?_)
  refine e_end ?_
  refine renew [(1, (.ref (.bx 1) 0 [] (.agg [(.int .i64 g_1.1), (Enc.enc (g_1.2 : List (Int × Int)))]))), (2, (.sl .nl (Enc.shp Int) 0 [])), (3, (.int .i64 0)), (4, (.bool false)), (5, (encO (.at 5 []) (.of ([] : List Int))))] ⟨(hg_3 1 (.ref (.bx 1) 0 [] (.agg [(.int .i64 g_1.1), (Enc.enc (g_1.2 : List (Int × Int)))])) (.ref (.bx 1) 0 [] (.agg [(.int .i64 g_1.1), (Enc.enc (g_1.2 : List (Int × Int)))])) (keep_clear (s := s) (pk := [9]) h1 rfl (map_bx rfl (map_agg (maps_cons rfl (maps_cons (Enc.map_enc _ (g_1.2 : List (Int × Int))) maps_nil))))) (map_bx rfl (map_agg (maps_cons rfl (maps_cons (Enc.map_enc _ (g_1.2 : List (Int × Int))) maps_nil))))), (hg_3 2 (.sl .nl (Enc.shp Int) 0 []) (.sl .nl (Enc.shp Int) 0 []) (keep_clear (s := s) (pk := [9]) h2 rfl rfl) rfl), (hg_3 3 (.int .i64 0) (.int .i64 0) (keep_clear (s := s) (pk := [9]) h3 rfl rfl) rfl), (hg_3 4 (.bool false) (.bool false) (keep_clear (s := s) (pk := [9]) h4 rfl rfl) rfl), (hg_3 5 (encO (.at 9 []) (.of ([] : List Int))) (encO (.at 5 []) (.of ([] : List Int))) rfl (map_encO (r := 9) (p := []) rfl rfl))⟩ ?_
  rintro s ⟨h1, h2, h3, h4, h5⟩
  refine .nsq ?_
  refine .seq ?_
  refine .seq ?_
  refine run_reg ?_
  refine e_end ?_
  refine g_v1 (t := 1) (u := (.ref (.bx 1) 0 [] (.agg [(.int .i64 g_1.1), (Enc.enc (g_1.2 : List (Int × Int)))]))) (.agg [(.int .i64 g_1.1), (Enc.enc (g_1.2 : List (Int × Int)))]) h1 rfl rfl ?_
  obtain ⟨r_2, E_r_2, h⟩ := bind_some h
  refine g_call (m := 0) (al := false) (r := (Enc.enc (r_2 : Bool))) [Enc.enc (g_1 : (Int × (List (Int × Int))))] (ta_cons (v := (.agg [(.int .i64 g_1.1), (Enc.enc (g_1.2 : List (Int × Int)))])) rfl rfl (Enc.erase_enc (g_1 : (Int × (List (Int × Int))))) ta_nil) (H.c48 _ _ E_r_2) H.g48 rfl rfl rfl rfl ?_
  refine g_v1 (t := 11) (u := (.bool r_2)) (.bool (!r_2)) rfl rfl rfl ?_
  refine g_end ?_
  refine e_end ?_
  refine renew [(1, (.ref (.bx 1) 0 [] (.agg [(.int .i64 g_1.1), (Enc.enc (g_1.2 : List (Int × Int)))]))), (2, (.sl .nl (Enc.shp Int) 0 [])), (3, (.int .i64 0)), (4, (.bool false)), (5, (encO (.at 5 []) (.of ([] : List Int)))), (12, (.bool (!r_2)))] ⟨h1, h2, h3, h4, h5, rfl⟩ ?_
  rintro s ⟨h1, h2, h3, h4, h5, h12⟩
  refine .nsq ?_
  refine run_cond (t := (!r_2)) h12 h (fun h => ?_) (fun h => ?_)
  · refine .seq ?_
    refine run_reg ?_
    refine e_end ?_
    refine g_v1 (t := 5) (u := (encO (.at 5 []) (.of ([] : List Int)))) (encO (.at 5 []) (.of ([] : List Int))) h5 rfl rfl ?_
    refine g_v1 (t := 13) (u := (encO (.at 5 []) (.of ([] : List Int)))) (encO (.at 5 []) (.of ([] : List Int))) rfl rfl rfl ?_
    refine g_v0 (.int .i64 0) rfl rfl ?_
    refine g_v0 (.bool false) rfl rfl ?_
    refine g_end ?_
    refine e_end ?_
    refine renew [(1, (.ref (.bx 1) 0 [] (.agg [(.int .i64 g_1.1), (Enc.enc (g_1.2 : List (Int × Int)))]))), (2, (encO (.at 5 []) (.of ([] : List Int)))), (3, (.int .i64 0)), (4, (.bool false)), (5, (encO (.at 5 []) (.of ([] : List Int))))] ⟨h1, rfl, rfl, rfl, h5⟩ ?_
    rintro s ⟨h1, h2, h3, h4, h5⟩
    refine .nsq ?_
    refine .ret ?_
    have hr := Option.some.inj h
    subst hr
    exact rrC (res_tmp h2) (res_tmp h3) (res_tmp h4) (fin_retF (fin_tup (fins_cons (fin_own (o := .of [])) (fins_cons (fin_enc (x := (0 : Int))) (fins_cons (fin_enc (x := (false : Bool))) fins_nil)))) (mine_tup (mines_cons (mine_own rfl) (mines_cons rfl (mines_cons rfl mines_nil)))))
  · refine .skip ?_
    refine .nsq ?_
    refine .seq ?_
    refine run_reg ?_
    refine e_end ?_
    refine g_v1 (t := 1) (u := (.ref (.bx 1) 0 [] (.agg [(.int .i64 g_1.1), (Enc.enc (g_1.2 : List (Int × Int)))]))) (.agg [(.int .i64 g_1.1), (Enc.enc (g_1.2 : List (Int × Int)))]) h1 rfl rfl ?_
    obtain ⟨r_3, E_r_3, h⟩ := bind_some h
    refine g_call (m := 0) (al := false) (r := (Enc.enc (r_3 : (List Int)))) [Enc.enc (g_1 : (Int × (List (Int × Int))))] (ta_cons (v := (.agg [(.int .i64 g_1.1), (Enc.enc (g_1.2 : List (Int × Int)))])) rfl rfl (Enc.erase_enc (g_1 : (Int × (List (Int × Int))))) ta_nil) (H.c85 _ _ E_r_3) H.g85 rfl rfl rfl rfl ?_
    refine g_v1 (t := 15) (u := (Enc.enc (r_3 : List Int))) (Enc.enc (r_3 : List Int)) rfl rfl rfl ?_
    refine g_end ?_
    refine e_end ?_
    refine renew [(1, (.ref (.bx 1) 0 [] (.agg [(.int .i64 g_1.1), (Enc.enc (g_1.2 : List (Int × Int)))]))), (2, (.sl .nl (Enc.shp Int) 0 [])), (3, (.int .i64 0)), (4, (.bool false)), (5, (encO (.at 5 []) (.of ([] : List Int)))), (6, (Enc.enc (r_3 : List Int)))] ⟨h1, h2, h3, h4, h5, rfl⟩ ?_
    rintro s ⟨h1, h2, h3, h4, h5, h6⟩
    refine .nsq ?_
    refine .seq ?_
    refine run_reg ?_
    refine e_end ?_
    refine g_v0 (.int .i64 0) rfl rfl ?_
    refine g_end ?_
    refine e_end ?_
    refine renew [(1, (.ref (.bx 1) 0 [] (.agg [(.int .i64 g_1.1), (Enc.enc (g_1.2 : List (Int × Int)))]))), (2, (.sl .nl (Enc.shp Int) 0 [])), (3, (.int .i64 0)), (4, (.bool false)), (5, (encO (.at 5 []) (.of ([] : List Int)))), (6, (Enc.enc (r_3 : List Int))), (7, (.int .i64 0))] ⟨h1, h2, h3, h4, h5, h6, rfl⟩ ?_
    rintro s ⟨h1, h2, h3, h4, h5, h6, h7⟩
    refine .nsq ?_
    refine .seq ?_
    refine .block ?_
    refine .loop ?_
    exact t_f41_l2 H g_1 r_3 F [] 0 _ ⟨h1, h2, h3, h4, h5, h6, h7⟩ h
end
def e41 (F : Nat) : Ent := ⟨41, da (fun (x : ((Int × (List (Int × Int))) × Unit)) => s_LeastCutwidth F x.1) (fun (r : (S3 (List Int) Int Bool)) => (.tup [Enc.enc (r.a : (List Int)), Enc.enc (r.b : Int), Enc.enc (r.c : Bool)])), 0, false, selF []⟩
theorem p41 {F : Nat} {x0 : (Int × (List (Int × Int)))} {r : (S3 (List Int) Int Bool)} (h : s_LeastCutwidth F x0 = some r) : (e41 F).den [Enc.enc x0] = some (.tup [Enc.enc (r.a : (List Int)), Enc.enc (r.b : Int), Enc.enc (r.c : Bool)]) := da_put (f := fun (x : ((Int × (List (Int × Int))) × Unit)) => s_LeastCutwidth F x.1) (t := fun (r : (S3 (List Int) Int Bool)) => (.tup [Enc.enc (r.a : (List Int)), Enc.enc (r.b : Int), Enc.enc (r.c : Bool)])) (x0, ()) h
theorem o41 {D : Den} {σ : Sig} {F : Nat} (hF : Fits2 Try.prog D σ) (H : H41 D σ F) : (e41 F).Ok Try.prog := by
  refine ok_of (f := 41) (show unk 41 = 41 from rfl) (fun args r h => ?_) ⟨Try.f41, Try.func41, rfl, rfl⟩
  obtain ⟨⟨x0, _⟩, y, rfl, hy, rfl⟩ := da_open h
  exact contract_run hF (by kernel_rfl) Try.func41 rfl c41 (show 1 ≤ Try.f41.ntmps by decide) (t41 H x0 _ rfl hy)
/- loop.example/g01109/impl.within -/
def A100_1 : AC := (AC.seq (AC.reg [] [(I.mk (some 7) none false (X.v (A.mov (O.t 0)))), (I.mk (some 8) none false (X.v (A.mov (O.t 1)))), (I.mk (some 9) none false (X.v (A.bin BinOp.geq (O.t 7) (O.t 8)))), (I.mk (some 10) none false (X.v (A.mov (O.t 9)))), (I.mk (some 11) (some (10, true)) false (X.v (A.mov (O.t 0)))), (I.mk (some 12) (some (10, true)) false (X.v (A.mov (O.t 2)))), (I.mk (some 13) (some (10, true)) false (X.v (A.bin BinOp.leq (O.t 11) (O.t 12)))), (I.mk (some 14) none false (X.v (A.pick (O.t 10) (O.t 13) (O.k (V.bool false))))), (I.mk (some 6) none false (X.v (A.mov (O.t 14))))] []) AC.ret)
def A100 : AC := (AC.seq (AC.reg [] [(I.mk (some 6) none false (X.v (A.mov (O.k (V.bool false)))))] []) A100_1)
def an100 : List An := []
theorem c100 : cC Try.prog Try.f100.ntmps an100 (Try.f100.body.getD .skip) = some A100 := by kernel_rfl
structure H100 (D : Den) (σ : Sig) (F : Nat) : Prop where
  mk ::
abbrev R100 (r : Bool) : (Nat → V) → Prop := RR Try.prog [.tmp 6] 0 false (Enc.enc (r : Bool))
section
variable {D : Den} {σ : Sig} {F : Nat} {r : Bool}
def i_within (F : Nat) (n_1 : Int) (low_2 : Int) (high_3 : Int) : Option Bool :=
  bif decide (n_1 ≥ low_2) then
    some (decide (n_1 ≤ high_3))
  else
    some false
theorem t100 (H : H100 D σ F) (n_1 : Int) (low_2 : Int) (high_3 : Int) (s : Nat → V) (hs : Facts [(0, (.int .i64 n_1)), (1, (.int .i64 low_2)), (2, (.int .i64 high_3))] s) (h : i_within F n_1 low_2 high_3 = some r) : Run D σ (R100 r) (.run A100 []) s := by
  unfold i_within at h
  obtain ⟨h0, h1, h2⟩ := hs
  refine .seq ?_
  refine run_reg ?_
  refine e_end ?_
  refine g_v0 (.bool false) rfl rfl ?_
  refine g_end ?_
  refine e_end ?_
  refine renew [(0, (.int .i64 n_1)), (1, (.int .i64 low_2)), (2, (.int .i64 high_3)), (6, (.bool false))] ⟨h0, h1, h2, rfl⟩ ?_
  rintro s ⟨h0, h1, h2, h6⟩
  refine .nsq ?_
  refine .seq ?_
  refine run_reg ?_
  refine e_end ?_
  refine g_v1 (t := 0) (u := (.int .i64 n_1)) (.int .i64 n_1) h0 rfl rfl ?_
  refine g_v1 (t := 1) (u := (.int .i64 low_2)) (.int .i64 low_2) h1 rfl rfl ?_
  refine g_v2 (t1 := 7) (t2 := 8) (u1 := (.int .i64 n_1)) (u2 := (.int .i64 low_2)) (.bool (decide (n_1 ≥ low_2))) rfl rfl rfl rfl ?_
  refine g_v1 (t := 9) (u := (.bool (decide (n_1 ≥ low_2)))) (.bool (decide (n_1 ≥ low_2))) rfl rfl rfl ?_
  refine split_on (c := decide (n_1 ≥ low_2)) h (fun hg4 h => ?_) (fun hg4 h => ?_)
  · refine g_yes (Eq.trans (b := .bool (decide (n_1 ≥ low_2))) rfl (congrArg V.bool hg4)) (g_v1 (t := 0) (u := (.int .i64 n_1)) (.int .i64 n_1) h0 rfl rfl ?_)
    refine g_yes (Eq.trans (b := .bool (decide (n_1 ≥ low_2))) rfl (congrArg V.bool hg4)) (g_v1 (t := 2) (u := (.int .i64 high_3)) (.int .i64 high_3) h2 rfl rfl ?_)
    refine g_yes (Eq.trans (b := .bool (decide (n_1 ≥ low_2))) rfl (congrArg V.bool hg4)) (g_v2 (t1 := 11) (t2 := 12) (u1 := (.int .i64 n_1)) (u2 := (.int .i64 high_3)) (.bool (decide (n_1 ≤ high_3))) rfl rfl rfl rfl ?_)
    refine g_v2 (t1 := 10) (t2 := 13) (u1 := (.bool true)) (u2 := (.bool (decide (n_1 ≤ high_3)))) (.bool (decide (n_1 ≤ high_3))) (Eq.trans (b := .bool (decide (n_1 ≥ low_2))) rfl (congrArg V.bool hg4)) rfl rfl rfl ?_
    refine g_v1 (t := 14) (u := (.bool (decide (n_1 ≤ high_3)))) (.bool (decide (n_1 ≤ high_3))) rfl rfl rfl ?_
    refine g_end ?_
    refine e_end ?_
    refine renew [(6, (.bool (decide (n_1 ≤ high_3))))] rfl ?_
    rintro s h6
    refine .nsq ?_
    refine .ret ?_
    have hr := Option.some.inj h
    subst hr
    exact rrA (res_tmp h6) rfl
  · refine g_no (Eq.trans (b := .bool (decide (n_1 ≥ low_2))) rfl (congrArg V.bool hg4)) ?_
    refine g_no (Eq.trans (b := .bool (decide (n_1 ≥ low_2))) rfl (congrArg V.bool hg4)) ?_
    refine g_no (Eq.trans (b := .bool (decide (n_1 ≥ low_2))) rfl (congrArg V.bool hg4)) ?_
    refine g_v2 (t1 := 10) (t2 := 13) (u1 := (.bool false)) (u2 := (.tup [])) (.bool false) (Eq.trans (b := .bool (decide (n_1 ≥ low_2))) rfl (congrArg V.bool hg4)) rfl rfl rfl ?_
    refine g_v1 (t := 14) (u := (.bool false)) (.bool false) rfl rfl rfl ?_
    refine g_end ?_
    refine e_end ?_
    refine renew [(6, (.bool false))] rfl ?_
    rintro s h6
    refine .nsq ?_
    refine .ret ?_
    have hr := Option.some.inj h
    subst hr
    exact rrA (res_tmp h6) rfl
end
def e100 (F : Nat) : Ent := ⟨100, da (fun (x : (Int × Int × Int × Unit)) => i_within F x.1 x.2.1 x.2.2.1) (fun (r : Bool) => (Enc.enc (r : Bool))), 0, false, selF []⟩
theorem p100 {F : Nat} {x0 : Int} {x1 : Int} {x2 : Int} {r : Bool} (h : i_within F x0 x1 x2 = some r) : (e100 F).den [Enc.enc x0, Enc.enc x1, Enc.enc x2] = some (Enc.enc (r : Bool)) := da_put (f := fun (x : (Int × Int × Int × Unit)) => i_within F x.1 x.2.1 x.2.2.1) (t := fun (r : Bool) => (Enc.enc (r : Bool))) (x0, x1, x2, ()) h
theorem o100 {D : Den} {σ : Sig} {F : Nat} (hF : Fits2 Try.prog D σ) (H : H100 D σ F) : (e100 F).Ok Try.prog := by
  refine ok_of (f := 100) (show unk 100 = 100 from rfl) (fun args r h => ?_) ⟨Try.f100, Try.func100, rfl, rfl⟩
  obtain ⟨⟨x0, x1, x2, _⟩, y, rfl, hy, rfl⟩ := da_open h
  exact contract_run hF (by kernel_rfl) Try.func100 rfl c100 (show 3 ≤ Try.f100.ntmps by decide) (t100 H x0 x1 x2 _ ⟨rfl, rfl, rfl⟩ hy)
/- cmp.isNaN[int] -/
def A126_1 : AC := (AC.seq (AC.reg [] [(I.mk (some 3) none false (X.v (A.mov (O.t 0)))), (I.mk (some 4) none false (X.v (A.mov (O.t 0)))), (I.mk (some 5) none false (X.v (A.bin BinOp.neq (O.t 3) (O.t 4)))), (I.mk (some 2) none false (X.v (A.mov (O.t 5))))] []) AC.ret)
def A126 : AC := (AC.seq (AC.reg [] [(I.mk (some 2) none false (X.v (A.mov (O.k (V.bool false)))))] []) A126_1)
def an126 : List An := []
theorem c126 : cC Try.prog Try.f126.ntmps an126 (Try.f126.body.getD .skip) = some A126 := by kernel_rfl
structure H126 (D : Den) (σ : Sig) (F : Nat) : Prop where
  mk ::
abbrev R126 (r : Bool) : (Nat → V) → Prop := RR Try.prog [.tmp 2] 0 false (Enc.enc (r : Bool))
section
variable {D : Den} {σ : Sig} {F : Nat} {r : Bool}
def cmp_isNaN_int (F : Nat) (x_1 : Int) : Option Bool :=
  some (x_1 != x_1)
theorem t126 (H : H126 D σ F) (x_1 : Int) (s : Nat → V) (hs : Facts [(0, (.int .i64 x_1))] s) (h : cmp_isNaN_int F x_1 = some r) : Run D σ (R126 r) (.run A126 []) s := by
  unfold cmp_isNaN_int at h
  have h0 := hs
  refine .seq ?_
  refine run_reg ?_
  refine e_end ?_
  refine g_v0 (.bool false) rfl rfl ?_
  refine g_end ?_
  refine e_end ?_
  refine renew [(0, (.int .i64 x_1)), (2, (.bool false))] ⟨h0, rfl⟩ ?_
  rintro s ⟨h0, h2⟩
  refine .nsq ?_
  refine .seq ?_
  refine run_reg ?_
  refine e_end ?_
  refine g_v1 (t := 0) (u := (.int .i64 x_1)) (.int .i64 x_1) h0 rfl rfl ?_
  refine g_v1 (t := 0) (u := (.int .i64 x_1)) (.int .i64 x_1) h0 rfl rfl ?_
  refine g_v2 (t1 := 3) (t2 := 4) (u1 := (.int .i64 x_1)) (u2 := (.int .i64 x_1)) (.bool (x_1 != x_1)) rfl rfl rfl rfl ?_
  refine g_v1 (t := 5) (u := (.bool (x_1 != x_1))) (.bool (x_1 != x_1)) rfl rfl rfl ?_
  refine g_end ?_
  refine e_end ?_
  refine renew [(2, (.bool (x_1 != x_1)))] rfl ?_
  rintro s h2
  refine .nsq ?_
  refine .ret ?_
  have hr := Option.some.inj h
  subst hr
  exact rrA (res_tmp h2) rfl
end
def e126 (F : Nat) : Ent := ⟨126, da (fun (x : (Int × Unit)) => cmp_isNaN_int F x.1) (fun (r : Bool) => (Enc.enc (r : Bool))), 0, false, selF []⟩
theorem p126 {F : Nat} {x0 : Int} {r : Bool} (h : cmp_isNaN_int F x0 = some r) : (e126 F).den [Enc.enc x0] = some (Enc.enc (r : Bool)) := da_put (f := fun (x : (Int × Unit)) => cmp_isNaN_int F x.1) (t := fun (r : Bool) => (Enc.enc (r : Bool))) (x0, ()) h
theorem o126 {D : Den} {σ : Sig} {F : Nat} (hF : Fits2 Try.prog D σ) (H : H126 D σ F) : (e126 F).Ok Try.prog := by
  refine ok_of (f := 126) (show unk 126 = 126 from rfl) (fun args r h => ?_) ⟨Try.f126, Try.func126, rfl, rfl⟩
  obtain ⟨⟨x0, _⟩, y, rfl, hy, rfl⟩ := da_open h
  exact contract_run hF (by kernel_rfl) Try.func126 rfl c126 (show 1 ≤ Try.f126.ntmps by decide) (t126 H x0 _ rfl hy)
end Go.Zq
