/- Functions of the program as typed functions, and that the machine runs as they say (part 2). No further condition. -/
import Derived.Test.YtkmhlpopclahcabK4
import Derived.Test.YtkmhlpopclahcabKC
import Derived.Test.YtkmhlpopclahcabProg
import Derived.Test.YtkmhlpopclahcabChecked
import Derived.KernelRfl
import Derived.Test.YtkmhlpopclahcabG1
set_option linter.unusedVariables false
set_option linter.unusedSimpArgs false
namespace Go.Zq
open Go.Proofs Go.Shelf
def zoO:AC:=(.seq (.reg [] [jm 3 0,jx 4 (.callT (jf 44) [.t 3,jn 6] [0] []),jz (.store (.ag [.s,.p]) (.t 2) (.t 4))] []) .ret)
def A18:AC:=(.seq (.reg [.clr [2]] [jx 2 (.alloc (.agg [i0,.sl .nl (.ag [.s,.s]) 0 []]))] []) zoO)
def zu1:List An:=[⟨0,[.clr [2]],[],[],[]⟩,⟨1,[],[],[2000000],[]⟩]
theorem c18:cC Try.prog Try.f18.ntmps zu1 (Try.f18.body.getD .skip)=some A18:=by kernel_rfl
structure H18 (D:Den) (σ:Sig) (F:Nat):Prop where
 c44:C44 (D 44) F
 g44:σ 44=some (Zk,false)
abbrev R18 (r:(GR×CU)):(Nat→V)→Prop:=RT Try.prog [.cell 2 26] (Enc.enc (r.1:GR)) [cuV zH r.2]
section
variable {D:Den} {σ:Sig} {F:Nat} {r:(GR×CU)}
def wW (F:Nat) (x_1:CC):Option (GR×CU):=
 (wl F (Cu.mk x_1.v) 6).bind fun r_2=>
 some (r_2.1,r_2.2)
theorem t18 (H:H18 D σ F) (x_1:CC) (s:Nat→V) (hs:zl [(0,bC x_1.v)] s) (h:wW F x_1=some r):Run D σ (R18 r) (.run A18 []) s:=by
 unfold wW at h
 have h0:=hs
 refine .seq (zq (zS ?_))
 refine ez [(0,_),(2,_)] ⟨za h0 rfl (zf rfl uH),zc rfl⟩ ?_
 rintro s ⟨h0,h2⟩
 refine xk h2 (gq (.nsq (.seq (rg (gm h0 fun h3=>?_)))))
 obtain ⟨r_2,E_r_2,h⟩:=bind_some h
 refine uz (r:=zH) (b:=0) (x:=x_1.v) (x':=r_2.2) (vs:=[Enc.enc (6:Int)]) (res:=Enc.enc (r_2.1:GR)) h0 (by exact (zQ (v:=cuV zH x_1.v) h3 rfl (zQ (v:=Enc.enc (6:Int)) rfl rfl yR))) (yk te yH) fm1 (H.c44 _ _ _ E_r_2) H.g44 te rfl (fun s_2 hb_2 ha_2=>yb (gV r_2.1) (zw (show s_2 2=(bZ 2) from ha_2 2 (bZ 2) _ rfl rfl (zf rfl (mIx rfl))) rfl) (zw rfl rfl) (wj (by first | rfl | simp [V.toks,V.tokss,Enc.toks_enc,ya])) ?_)
 refine gz [(0,bC r_2.2),(2,bG 2 r_2.1)] ⟨zb (show s_2 0=(bC r_2.2) from hb_2 0 h0) (zC rfl rfl Uu),zb (show s_2 2=(bZ 2) from ha_2 2 (bZ 2) _ rfl rfl (zf rfl (mIx rfl))) rfl⟩ ?_
 rintro s ⟨h0,h2⟩
 refine .nsq (.ret ?_)
 have hr:=Option.some.inj h
 subst hr
 exact rt1 (t:=0) (wN h2 (by kernel_rfl)) h0
end
def e18 (F:Nat):Ent:=ent 18 (fun (x:(CC×Unit))=>wW F x.1) (fun (r:(GR×CU))=>(.tup [Enc.enc (r.1:GR),.tup [cuV zH r.2]])) Zk false []
abbrev C18 (D:List V→Option V) (F:Nat):Prop:=∀ (x0:CC) r,wW F x0=some r→D [Arg.arg x0]=some (.tup [Enc.enc (r.1:GR),.tup [cuV zH r.2]])
theorem p18 {F:Nat}:C18 (e18 F).den F:=fun x0 _ h=>zN (x0,()) h
theorem o18 {D:Den} {σ:Sig} {F:Nat} (hF:zy Try.prog D σ) (H:H18 D σ F):(e18 F).Ok Try.prog:=by
 refine yl (f:=18) (show unk 18=18 from rfl) (fun args r h=>?_) ⟨Try.f18,Try.func18,rfl,rfl⟩
 obtain ⟨⟨x0,_⟩,y,rfl,hy,rfl⟩:=zM h
 exact wV hF (by kernel_rfl) Try.func18 rfl c18 rfl (show 1≤Try.f18.ntmps by decide) (by decide) (t18 H x0 _ rfl hy)
def zuv:AC:=(.seq (.reg [] [jm 7 3,jx 8 (.callT (jf 18) [.t 7] [3] []),jz (.store (.ag [.s,.p]) (.t 2) (.t 8))] []) .ret)
def zt1:AC:=(.seq (.reg [.clr [6]] [jm 4 0,jv 5 (.bld (.agg [.sl .nl .s 0 [],i0,.int .u64 (.ofNat 0)]) [(0,0,.t 4)]),jx 6 (.box (.t 5)),jm 3 6] []) zuv)
def A5:AC:=(.seq (.reg [.clr [2]] [jx 2 (.alloc (.agg [i0,.sl .nl (.ag [.s,.s]) 0 []]))] []) zt1)
def an5:List An:=[⟨0,[.clr [2]],[],[],[]⟩,⟨1,[.clr [6]],[],[],[]⟩,⟨2,[],[],[2000003],[]⟩]
theorem c5:cC Try.prog Try.f5.ntmps an5 (Try.f5.body.getD .skip)=some A5:=by kernel_rfl
structure H5 (D:Den) (σ:Sig) (F:Nat):Prop where
 c18:C18 (D 18) F
 g18:σ 18=some (Zk,false)
abbrev R5 (r:GR):(Nat→V)→Prop:=RR Try.prog [.cell 2 26] 0 true (Enc.enc (r:GR))
section
variable {D:Den} {σ:Sig} {F:Nat} {r:GR}
def wo (F:Nat) (x_1:LB):Option GR:=
 (wW F (cu x_1 0 0)).bind fun r_2=>
 some r_2.1
theorem t5 (H:H5 D σ F) (x_1:LB) (s:Nat→V) (hs:zl [(0,eB x_1)] s) (h:wo F x_1=some r):Run D σ (R5 r) (.run A5 []) s:=by
 unfold wo at h
 have h0:=hs
 refine .seq (zq (zS ?_))
 refine ez [(0,_),(2,_)] ⟨za h0 rfl me,zc rfl⟩ ?_
 rintro s ⟨h0,h2⟩
 refine xk h2 (gq (.nsq (.seq (zq (zS ?_)))))
 refine ez [(0,_),(2,_),(6,_)] ⟨za h0 rfl me,za rfl rfl (zf rfl (mIx rfl)),zc rfl⟩ ?_
 rintro s ⟨h0,h2,h6⟩
 refine gm h0 fun h4=>g1 4 (.agg [eB x_1,ji 0,.int .u64 0]) h4 fun h5=>xz (.agg [eB x_1,ji 0,.int .u64 0]) (zw h5 rfl) h6 rfl (gm (rf (.ref (.bx 6) 0 [] (.agg [eB x_1,ji 0,.int .u64 0]))) fun h3=>gq (.nsq (.seq (rg (gm h3 fun h7=>?_)))))
 obtain ⟨r_2,E_r_2,h⟩:=bind_some h
 refine uz (r:=6) (b:=3) (x:=((S3.mk x_1 0 (Kd.mk 0:Kd .u64)):CU)) (x':=r_2.2) (vs:=[]) (res:=Enc.enc (r_2.1:GR)) h3 (by exact (zQ (v:=cuV 6 ((S3.mk x_1 0 (Kd.mk 0:Kd .u64)):CU)) h7 rfl yR)) yH (fun f=>zh) (H.c18 _ _ E_r_2) H.g18 te rfl (fun s_3 hb_3 ha_3=>yb (gV r_2.1) (zw (show s_3 2=(bZ 2) from ha_3 2 _ _ h2 rfl (zf rfl (mIx rfl))) rfl) (zw rfl rfl) (wj (by first | rfl | simp [V.toks,V.tokss,Enc.toks_enc,ya])) (gz [(2,bG 2 r_2.1)] (zb (show s_3 2=(bZ 2) from ha_3 2 _ _ h2 rfl (zf rfl (mIx rfl))) rfl) ?_))
 rintro s h2
 refine .nsq (.ret ?_)
 have hr:=Option.some.inj h
 subst hr
 exact rrA (wN h2 (by kernel_rfl)) (Yo (vD (x:=(r_2.1:GR))))
end
def e5 (F:Nat):Ent:=ent 5 (fun (x:(LB×Unit))=>wo F x.1) (fun (r:GR)=>(Enc.enc (r:GR))) 0 true []
abbrev C5 (D:List V→Option V) (F:Nat):Prop:=∀ (x0:LB) r,wo F x0=some r→D [Enc.enc x0]=some (Enc.enc (r:GR))
theorem p5 {F:Nat}:C5 (e5 F).den F:=fun x0 _ h=>zN (x0,()) h
theorem o5 {D:Den} {σ:Sig} {F:Nat} (hF:zy Try.prog D σ) (H:H5 D σ F):(e5 F).Ok Try.prog:=by
 refine yl (f:=5) (show unk 5=5 from rfl) (fun args r h=>?_) ⟨Try.f5,Try.func5,rfl,rfl⟩
 obtain ⟨⟨x0,_⟩,y,rfl,hy,rfl⟩:=zM h
 exact zm hF (by kernel_rfl) Try.func5 rfl c5 (show 1≤Try.f5.ntmps by decide) (t5 H x0 _ rfl hy)
def zrY:AC:=(.seq (.reg [] [jm 7 0,jm 8 1,jv 9 (.bin .geq (.t 7) (.t 8)),jm 10 9,jg 11 10 true (.mov (.t 0)),jg 12 10 true (.mov (.t 2)),jg 13 10 true (.bin .leq (.t 11) (.t 12)),jv 14 (.pick (.t 10) (.t 13) kf),jm 6 14] []) .ret)
def A45:AC:=(.seq (.reg [] [jv 6 (.mov kf)] []) zrY)
def ztS:List An:=[]
theorem c45:cC Try.prog Try.f45.ntmps ztS (Try.f45.body.getD .skip)=some A45:=by kernel_rfl
structure H45 (D:Den) (σ:Sig) (F:Nat):Prop where
 mk ::
abbrev R45 (r:Bool):(Nat→V)→Prop:=RR Try.prog [.tmp 6] 0 false (Enc.enc (r:Bool))
section
variable {D:Den} {σ:Sig} {F:Nat} {r:Bool}
def YX (F:Nat) (x_1:Int) (x_2:Int) (x_3:Int):Option Bool:=
 bif decide (x_1≥x_2) then
  some (decide (x_1≤x_3))
 else
  some false
theorem t45 (H:H45 D σ F) (x_1:Int) (x_2:Int) (x_3:Int) (s:Nat→V) (hs:zl [(0,ji x_1),(1,ji x_2),(2,ji x_3)] s) (h:YX F x_1 x_2 x_3=some r):Run D σ (R45 r) (.run A45 []) s:=by
 unfold YX at h
 obtain ⟨h0,h1,h2⟩:=hs
 refine .seq (rg (g0 (jb false) fun h6=>gq (.nsq (.seq (rg (gm h0 fun h7=>gm h1 fun h8=>g2 7 8 (jb (decide (x_1≥x_2))) h7 h8 fun h9=>gm h9 fun h10=>zW (c:=decide (x_1≥x_2)) h (fun hg4 h=>?_) (fun hg4 h=>?_)))))))
 · refine zg (ct h10 hg4) (gm h0 fun h11=>zg (ct h10 hg4) (gm h2 fun h12=>zg (ct h10 hg4) (g2 11 12 (jb (decide (x_1≤x_3))) h11 h12 fun h13=>g2 10 13 (jb (decide (x_1≤x_3))) (ct h10 hg4) h13 fun h14=>gm h14 fun h6=>gq (.nsq (.ret ?_)))))
   have hr:=Option.some.inj h
   subst hr
   exact rrA (zn h6) rfl
 iterate 3 refine z9 (ct h10 hg4) ?_
 refine g2 10 13 (jb false) (ct h10 hg4) (rf (.tup [])) fun h14=>gm h14 fun h6=>gq (.nsq (.ret ?_))
 have hr:=Option.some.inj h
 subst hr
 exact rrA (zn h6) rfl
end
def e45 (F:Nat):Ent:=ent 45 (fun (x:(Int×Int×Int×Unit))=>YX F x.1 x.2.1 x.2.2.1) (fun (r:Bool)=>(Enc.enc (r:Bool))) 0 false []
abbrev C45 (D:List V→Option V) (F:Nat):Prop:=∀ (x0:Int) (x1:Int) (x2:Int) r,YX F x0 x1 x2=some r→D [Enc.enc x0,Enc.enc x1,Enc.enc x2]=some (Enc.enc (r:Bool))
theorem p45 {F:Nat}:C45 (e45 F).den F:=fun x0 x1 x2 _ h=>zN (x0,x1,x2,()) h
theorem o45 {D:Den} {σ:Sig} {F:Nat} (hF:zy Try.prog D σ) (H:H45 D σ F):(e45 F).Ok Try.prog:=by
 refine yl (f:=45) (show unk 45=45 from rfl) (fun args r h=>?_) ⟨Try.f45,Try.func45,rfl,rfl⟩
 obtain ⟨⟨x0,x1,x2,_⟩,y,rfl,hy,rfl⟩:=zM h
 exact zm hF (by kernel_rfl) Try.func45 rfl c45 (show 3≤Try.f45.ntmps by decide) (t45 H x0 x1 x2 _ ⟨rfl,rfl,rfl⟩ hy)
def zsv:AC:=(.seq (.reg [] [jm 3 0,jm 4 0,jv 5 (.bin .neq (.t 3) (.t 4)),jm 2 5] []) .ret)
def A79:AC:=(.seq (.reg [] [jv 2 (.mov kf)] []) zsv)
def ztg:List An:=[]
theorem c79:cC Try.prog Try.f79.ntmps ztg (Try.f79.body.getD .skip)=some A79:=by kernel_rfl
structure H79 (D:Den) (σ:Sig) (F:Nat):Prop where
 mk ::
abbrev R79 (r:Bool):(Nat→V)→Prop:=RR Try.prog [.tmp 2] 0 false (Enc.enc (r:Bool))
section
variable {D:Den} {σ:Sig} {F:Nat} {r:Bool}
def wY (F:Nat) (x_1:Int):Option Bool:=
 some (x_1 != x_1)
theorem t79 (H:H79 D σ F) (x_1:Int) (s:Nat→V) (hs:zl [(0,ji x_1)] s) (h:wY F x_1=some r):Run D σ (R79 r) (.run A79 []) s:=by
 unfold wY at h
 have h0:=hs
 refine .seq (rg (g0 (jb false) fun h2=>gq (.nsq (.seq (rg (gm h0 fun h3=>gm h0 fun h4=>g2 3 4 (jb (x_1 != x_1)) h3 h4 fun h5=>gm h5 fun h2=>gq (.nsq (.ret ?_))))))))
 have hr:=Option.some.inj h
 subst hr
 exact rrA (zn h2) rfl
end
def e79 (F:Nat):Ent:=ent 79 (fun (x:(Int×Unit))=>wY F x.1) (fun (r:Bool)=>(Enc.enc (r:Bool))) 0 false []
abbrev C79 (D:List V→Option V) (F:Nat):Prop:=∀ (x0:Int) r,wY F x0=some r→D [Enc.enc x0]=some (Enc.enc (r:Bool))
theorem p79 {F:Nat}:C79 (e79 F).den F:=fun x0 _ h=>zN (x0,()) h
theorem o79 {D:Den} {σ:Sig} {F:Nat} (hF:zy Try.prog D σ) (H:H79 D σ F):(e79 F).Ok Try.prog:=by
 refine yl (f:=79) (show unk 79=79 from rfl) (fun args r h=>?_) ⟨Try.f79,Try.func79,rfl,rfl⟩
 obtain ⟨⟨x0,_⟩,y,rfl,hy,rfl⟩:=zM h
 exact zm hF (by kernel_rfl) Try.func79 rfl c79 (show 1≤Try.f79.ntmps by decide) (t79 H x0 _ rfl hy)
def zqi:AC:=(.cond (.t 12) (.seq (.reg [] [jv 4 (.mov (jn 0))] []) .ret) .skip)
def zpJ:AC:=(.seq (.reg [] [jv 4 (.mov (jn (-1)))] []) .ret)
def zsz:AC:=(.cond (.t 11) (.seq (.seq (.reg [] [jm 12 6] []) zqi) zpJ) .skip)
def zpU:AC:=(.cond (.t 13) (.seq (.reg [] [jv 4 (.mov (jn 1))] []) .ret) .skip)
def zmv:AC:=(.cond (.t 16) (.seq (.reg [] [jv 4 (.mov (jn (-1)))] []) .ret) .skip)
def zmd:AC:=(.cond (.t 19) (.seq (.reg [] [jv 4 (.mov (jn 1))] []) .ret) .skip)
def znf:AC:=(.seq (.reg [] [jv 4 (.mov (jn 0))] []) .ret)
def zma:AC:=(.seq (.seq (.reg [] [jm 17 0,jm 18 1,jv 19 (.bin .gtr (.t 17) (.t 18))] []) zmd) znf)
def zqc:AC:=(.seq (.seq (.reg [] [jm 14 0,jm 15 1,jv 16 (.bin .lss (.t 14) (.t 15))] []) zmv) zma)
def zq0:AC:=(.seq (.seq (.reg [] [jm 13 6] []) zpU) zqc)
def zsu:AC:=(.seq (.seq (.reg [] [jm 11 5] []) zsz) zq0)
def zs8:AC:=(.seq (.reg [] [jm 9 1,jx 10 (.call (jf 79) [.t 9]),jm 6 10] []) zsu)
def zsU:AC:=(.seq (.reg [] [jm 7 0,jx 8 (.call (jf 79) [.t 7]),jm 5 8] []) zs8)
def A73:AC:=(.seq (.reg [] [jv 4 (.mov (jn 0))] []) zsU)
def ztu:List An:=[]
theorem c73:cC Try.prog Try.f73.ntmps ztu (Try.f73.body.getD .skip)=some A73:=by kernel_rfl
structure H73 (D:Den) (σ:Sig) (F:Nat):Prop where
 c79:C79 (D 79) F
 g79:σ 79=some (0,false)
abbrev R73 (r:Int):(Nat→V)→Prop:=RR Try.prog [.tmp 4] 0 false (Enc.enc (r:Int))
section
variable {D:Den} {σ:Sig} {F:Nat} {r:Int}
def x7 (F:Nat) (x_1:Int) (x_2:Int):Option Int:=
 (wY F x_1).bind fun r_3=>
 (wY F x_2).bind fun r_4=>
 bif r_3 then
  bif r_4 then
   some 0
  else
   some (-1)
 else
  bif r_4 then
   some 1
  else
   bif decide (x_1 < x_2) then
    some (-1)
   else
    bif decide (x_1 > x_2) then
     some 1
    else
     some 0
theorem t73 (H:H73 D σ F) (x_1:Int) (x_2:Int) (s:Nat→V) (hs:zl [(0,ji x_1),(1,ji x_2)] s) (h:x7 F x_1 x_2=some r):Run D σ (R73 r) (.run A73 []) s:=by
 unfold x7 at h
 obtain ⟨h0,h1⟩:=hs
 refine .seq (rg (g0 (ji 0) fun h4=>gq (.nsq (.seq (rg (gm h0 fun h7=>?_))))))
 obtain ⟨r_3,E_r_3,h⟩:=bind_some h
 refine zF (m:=0) (al:=false) (r:=Enc.enc (r_3:Bool)) [Enc.enc (x_1:Int)] (ze (v:=ji x_1) h7 rfl rfl zx) (H.c79 _ _ E_r_3) H.g79 rfl rfl rfl rfl (gm (rf (jb r_3)) fun h5=>gq (.nsq (.seq (rg (gm h1 fun h9=>?_)))))
 obtain ⟨r_4,E_r_4,h⟩:=bind_some h
 refine zF (m:=0) (al:=false) (r:=Enc.enc (r_4:Bool)) [Enc.enc (x_2:Int)] (ze (v:=ji x_2) h9 rfl rfl zx) (H.c79 _ _ E_r_4) H.g79 rfl rfl rfl rfl (gm (rf (jb r_4)) fun h6=>gq (.nsq (.seq (.seq (rg (gm h5 fun h11=>gq (.nsq (zk (t:=r_3) h11 h (fun h=>?_) (fun h=>?_)))))))))
 · refine .seq (.seq (rg (gm h6 fun h12=>gq (.nsq (zk (t:=r_4) h12 h (fun h=>?_) (fun h=>?_))))))
   · refine .seq (rg (g0 (ji 0) fun h4=>gq (.nsq (.ret ?_))))
     have hr:=Option.some.inj h
     subst hr
     exact rrA (zn h4) rfl
   refine .skip (.nsq (.seq (rg (g0 (ji (-1)) fun h4=>gq (.nsq (.ret ?_))))))
   have hr:=Option.some.inj h
   subst hr
   exact rrA (zn h4) rfl
 refine .skip (.nsq (.seq (.seq (rg (gm h6 fun h13=>gq (.nsq (zk (t:=r_4) h13 h (fun h=>?_) (fun h=>?_))))))))
 · refine .seq (rg (g0 (ji 1) fun h4=>gq (.nsq (.ret ?_))))
   have hr:=Option.some.inj h
   subst hr
   exact rrA (zn h4) rfl
 refine .skip (.nsq (.seq (.seq (rg (gm h0 fun h14=>gm h1 fun h15=>g2 14 15 (jb (decide (x_1 < x_2))) h14 h15 fun h16=>gq (.nsq (zk (t:=decide (x_1 < x_2)) h16 h (fun h=>?_) (fun h=>?_))))))))
 · refine .seq (rg (g0 (ji (-1)) fun h4=>gq (.nsq (.ret ?_))))
   have hr:=Option.some.inj h
   subst hr
   exact rrA (zn h4) rfl
 refine .skip (.nsq (.seq (.seq (rg (gm h0 fun h17=>gm h1 fun h18=>g2 17 18 (jb (decide (x_1 > x_2))) h17 h18 fun h19=>gq (.nsq (zk (t:=decide (x_1 > x_2)) h19 h (fun h=>?_) (fun h=>?_))))))))
 · refine .seq (rg (g0 (ji 1) fun h4=>gq (.nsq (.ret ?_))))
   have hr:=Option.some.inj h
   subst hr
   exact rrA (zn h4) rfl
 refine .skip (.nsq (.seq (rg (g0 (ji 0) fun h4=>gq (.nsq (.ret ?_))))))
 have hr:=Option.some.inj h
 subst hr
 exact rrA (zn h4) rfl
end
def e73 (F:Nat):Ent:=ent 73 (fun (x:(Int×Int×Unit))=>x7 F x.1 x.2.1) (fun (r:Int)=>(Enc.enc (r:Int))) 0 false []
abbrev C73 (D:List V→Option V) (F:Nat):Prop:=∀ (x0:Int) (x1:Int) r,x7 F x0 x1=some r→D [Enc.enc x0,Enc.enc x1]=some (Enc.enc (r:Int))
theorem p73 {F:Nat}:C73 (e73 F).den F:=fun x0 x1 _ h=>zN (x0,x1,()) h
theorem o73 {D:Den} {σ:Sig} {F:Nat} (hF:zy Try.prog D σ) (H:H73 D σ F):(e73 F).Ok Try.prog:=by
 refine yl (f:=73) (show unk 73=73 from rfl) (fun args r h=>?_) ⟨Try.f73,Try.func73,rfl,rfl⟩
 obtain ⟨⟨x0,x1,_⟩,y,rfl,hy,rfl⟩:=zM h
 exact zm hF (by kernel_rfl) Try.func73 rfl c73 (show 2≤Try.f73.ntmps by decide) (t73 H x0 x1 _ ⟨rfl,rfl⟩ hy)
def zom:AC:=(.cond (.t 19) (.seq (.reg [] [jv 4 (.mov (jn 1))] []) .ret) .skip)
def zrd:AC:=(.cond (.t 28) (.seq (.reg [] [jm 29 8,jm 4 29] []) .ret) .skip)
def zpQ:AC:=(.seq (.reg [] [jm 27 8,jv 28 (.bin .neq (.t 27) (jn 0))] []) zrd)
def zoE:AC:=(.seq (.reg [] [jm 24 6,jm 25 7,jx 26 (.call (jf 73) [.t 24,.t 25]),jm 8 26] []) zpQ)
def zpH:AC:=(.seq (.reg [] [jm 20 1,jm 21 5,jv 22 (.idx (.t 20) (.t 21) 1),jv 23 (.load .s (.t 22)),jm 7 23] []) zoE)
def zo1:AC:=(.seq (.seq (.reg [] [jm 16 5,jm 17 1,jv 18 (.len (.t 17)),jv 19 (.bin .geq (.t 16) (.t 18))] []) zom) zpH)
def zlD:AC:=(.reg [] [jv 30 (.bin .add (.t 11) (jn 1)),jm 11 30] [])
def zp4:AC:=(.seq (.block 1 (.seq (.reg [] [jm 13 11,jv 14 (.idx (.t 9) (.t 11) 1),jv 15 (.load .s (.t 14)),jm 5 13,jm 6 15] []) zo1)) zlD)
def zrH:AC:=(.seq (.cond (.t 12) .skip (.exit 0)) zp4)
def zh0:AC:=(.seq (.reg [] [jv 12 (.bin .lss (.t 11) (.t 10))] []) zrH)
def zl2:AC:=(.cond (.t 35) (.seq (.reg [] [jv 4 (.mov (jn (-1)))] []) .ret) .skip)
def znh:AC:=(.seq (.reg [] [jv 4 (.mov (jn 0))] []) .ret)
def ziU:AC:=(.seq (.seq (.reg [] [jm 31 0,jv 32 (.len (.t 31)),jm 33 1,jv 34 (.len (.t 33)),jv 35 (.bin .lss (.t 32) (.t 34))] []) zl2) znh)
def zlE:AC:=(.block 0 (.loop zh0))
def znv:AC:=(.seq (.seq (.reg [] [jm 9 0,jv 10 (.len (.t 9)),jv 11 (.mov (jn 0))] []) zlE) ziU)
def A46:AC:=(.seq (.reg [] [jv 4 (.mov (jn 0))] []) znv)
def zuI:List An:=[]
theorem c46:cC Try.prog Try.f46.ntmps zuI (Try.f46.body.getD .skip)=some A46:=by kernel_rfl
structure H46 (D:Den) (σ:Sig) (F:Nat):Prop where
 c73:C73 (D 73) F
 g73:σ 73=some (0,false)
abbrev R46 (r:Int):(Nat→V)→Prop:=RR Try.prog [.tmp 4] 0 false (Enc.enc (r:Int))
section
variable {D:Den} {σ:Sig} {F:Nat} {r:Int}
def xM (F:Nat) (x_1:LI) (x_2:LI) :Nat→Int→Option Int
 | 0,_=>none
 | k + 1,x_6=>
   bif decide (x_6 < (x_1.length:Int)) then
    (idx x_1 x_6).bind fun e_10=>
    bif decide (x_6≥(x_2.length:Int)) then
     some 1
    else
     (idx x_2 x_6).bind fun e_11=>
     (x7 F e_10 e_11).bind fun r_12=>
     bif (r_12 != 0) then
      some r_12
     else
      (xM F x_1 x_2 k) (w64 (x_6 + 1))
   else
    bif decide ((x_1.length:Int) < (x_2.length:Int)) then
     some (-1)
    else
     some 0
theorem ziZ (H:H46 D σ F) (x_1:LI) (x_2:LI) :∀ (k:Nat) (x_6:Int) (s:Nat→V),zl [(0,eL x_1),(1,eL x_2),(4,ji 0),(9,eL x_1),(10,ji (x_1.length:Int)),(11,ji x_6)] s→xM F x_1 x_2 k x_6=some r→Run D σ (R46 r) (.run zh0 [.lp zh0,.bk 0,.sq ziU]) s:=by
 intro k
 induction k with
 | zero=>intro x_6 s _ h;exact nm h
 | succ k ih=>
   intro x_6 s hs h
   rw [xM] at h
   obtain ⟨h0,h1,h4,h9,h10,h11⟩:=hs
   refine .seq (rg (g2 11 10 (jb (decide (x_6 < (x_1.length:Int)))) h11 h10 fun h12=>gq (.nsq (.seq (zk (t:=decide (x_6 < (x_1.length:Int))) h12 h (fun h=>?_) (fun h=>?_))))))
   · refine .skip (.nsq (.seq (.block (.seq (rg (gm h11 fun h13=>?_))))))
     obtain ⟨e_10,E_e_10,h⟩:=bind_some h
     refine gv (.ref .sh 0 [] (ji e_10)) (yz (t:=.sh) (lo:=0) (xs:=x_1) h9 h11 E_e_10 rfl rfl) fun h14=>g1 14 (ji e_10) h14 fun h15=>gm h13 fun h5=>gm h15 fun h6=>gq (.nsq (.seq (.seq (rg (gm h5 fun h16=>gm h1 fun h17=>gv (ji (x_2.length:Int)) (yu (xs:=x_2) h17) fun h18=>g2 16 18 (jb (decide (x_6≥(x_2.length:Int)))) h16 h18 fun h19=>gq (.nsq (zk (t:=decide (x_6≥(x_2.length:Int))) h19 h (fun h=>?_) (fun h=>?_))))))))
     · refine .seq (rg (g0 (ji 1) fun h4=>gq (.nsq (.ret ?_))))
       have hr:=Option.some.inj h
       subst hr
       exact rrA (zn h4) rfl
     refine .skip (.nsq (.seq (rg (gm h1 fun h20=>gm h5 fun h21=>?_))))
     obtain ⟨e_11,E_e_11,h⟩:=bind_some h
     refine gv (.ref .sh 0 [] (ji e_11)) (yz (t:=.sh) (lo:=0) (xs:=x_2) h20 h21 E_e_11 rfl rfl) fun h22=>g1 22 (ji e_11) h22 fun h23=>gm h23 fun h7=>gq (.nsq (.seq (rg (gm h6 fun h24=>gm h7 fun h25=>?_))))
     obtain ⟨r_12,E_r_12,h⟩:=bind_some h
     refine zF (m:=0) (al:=false) (r:=Enc.enc (r_12:Int)) [Enc.enc (e_10:Int),Enc.enc (e_11:Int)] (ze (v:=ji e_10) h24 rfl rfl (ze (v:=ji e_11) h25 rfl rfl zx)) (H.c73 _ _ _ E_r_12) H.g73 rfl rfl rfl rfl (gm (rf (ji r_12)) fun h8=>gq (.nsq (.seq (rg (gm h8 fun h27=>g1 27 (jb (r_12 != 0)) h27 fun h28=>gq (.nsq (zk (t:=(r_12 != 0)) h28 h (fun h=>?_) (fun h=>?_))))))))
     · refine .seq (rg (gm h8 fun h29=>gm h29 fun h4=>gq (.nsq (.ret ?_))))
       have hr:=Option.some.inj h
       subst hr
       exact rrA (zn h4) rfl
     refine .skip (.nbk (.nsq (rg (g1 11 (ji (w64 (x_6 + 1))) h11 fun h30=>gm h30 fun h11=>gq (.nlp ?_)))))
     exact ih (w64 (x_6 + 1)) _ ⟨h0,h1,h4,h9,h10,h11⟩ h
   refine .exit (.esq (.elp (.ebk (.nsq (.seq (.seq (rg (gm h0 fun h31=>gv (ji (x_1.length:Int)) (yu (xs:=x_1) h31) fun h32=>gm h1 fun h33=>gv (ji (x_2.length:Int)) (yu (xs:=x_2) h33) fun h34=>g2 32 34 (jb (decide ((x_1.length:Int) < (x_2.length:Int)))) h32 h34 fun h35=>gq (.nsq (zk (t:=decide ((x_1.length:Int) < (x_2.length:Int))) h35 h (fun h=>?_) (fun h=>?_)))))))))))
   · refine .seq (rg (g0 (ji (-1)) fun h4=>gq (.nsq (.ret ?_))))
     have hr:=Option.some.inj h
     subst hr
     exact rrA (zn h4) rfl
   refine .skip (.nsq (.seq (rg (g0 (ji 0) fun h4=>gq (.nsq (.ret ?_))))))
   have hr:=Option.some.inj h
   subst hr
   exact rrA (zn h4) rfl
def xX (F:Nat) (x_1:LI) (x_2:LI):Option Int:=
 xM F x_1 x_2 F 0
theorem t46 (H:H46 D σ F) (x_1:LI) (x_2:LI) (s:Nat→V) (hs:zl [(0,eL x_1),(1,eL x_2)] s) (h:xX F x_1 x_2=some r):Run D σ (R46 r) (.run A46 []) s:=by
 unfold xX at h
 obtain ⟨h0,h1⟩:=hs
 refine .seq (rg (g0 (ji 0) fun h4=>gq (.nsq (.seq (.seq (rg (gm h0 fun h9=>gv (ji (x_1.length:Int)) (yu (xs:=x_1) h9) fun h10=>g0 (ji 0) fun h11=>gq (.nsq (.block (.loop ?_))))))))))
 exact ziZ H x_1 x_2 F 0 _ ⟨h0,h1,h4,h9,h10,h11⟩ h
end
def e46 (F:Nat):Ent:=ent 46 (fun (x:(LI×LI×Unit))=>xX F x.1 x.2.1) (fun (r:Int)=>(Enc.enc (r:Int))) 0 false []
abbrev C46 (D:List V→Option V) (F:Nat):Prop:=∀ (x0:LI) (x1:LI) r,xX F x0 x1=some r→D [Enc.enc x0,Enc.enc x1]=some (Enc.enc (r:Int))
theorem p46 {F:Nat}:C46 (e46 F).den F:=fun x0 x1 _ h=>zN (x0,x1,()) h
theorem o46 {D:Den} {σ:Sig} {F:Nat} (hF:zy Try.prog D σ) (H:H46 D σ F):(e46 F).Ok Try.prog:=by
 refine yl (f:=46) (show unk 46=46 from rfl) (fun args r h=>?_) ⟨Try.f46,Try.func46,rfl,rfl⟩
 obtain ⟨⟨x0,x1,_⟩,y,rfl,hy,rfl⟩:=zM h
 exact zm hF (by kernel_rfl) Try.func46 rfl c46 (show 2≤Try.f46.ntmps by decide) (t46 H x0 x1 _ ⟨rfl,rfl⟩ hy)
def zlg:AC:=(.cond (.t 48) (.seq (.reg [] [jv 2 (.mov kf)] []) .ret) .skip)
def zpr:AC:=(.seq (.reg [] [jv 17 (.idxA (.t 4) (jn 0) 2 1),jv 18 (.load .s (.t 17)),jv 19 (.bin .lss (.t 18) (jn 0)),jm 20 19,jg 21 20 false (.idxA (.t 4) (jn 0) 2 1),jg 22 20 false (.load .s (.t 21)),jg 23 20 false (.idxA (.t 4) (jn 1) 2 1),jg 24 20 false (.load .s (.t 23)),jg 25 20 false (.bin .geq (.t 22) (.t 24)),jv 26 (.pick (.t 20) kt (.t 25)),jm 27 26,jg 28 27 false (.idxA (.t 4) (jn 1) 2 1),jg 29 27 false (.load .s (.t 28)),jg 30 27 false (.fld (.t 1) 0 0),jg 31 27 false (.load .s (.t 30)),jg 32 27 false (.bin .geq (.t 29) (.t 31)),jv 33 (.pick (.t 27) kt (.t 32)),jm 34 33,jg 35 34 false (.mov (.t 3)),jg 36 34 false (.bin .gtr (.t 35) (jn 0)),jg 37 34 false (.mov (.t 36)),jg 38 37 true (.fld (.t 1) 1 1),jg 39 37 true (.load .p (.t 38)),jg 40 37 true (.mov (.t 3)),jg 41 37 true (.bin .sub (.t 40) (jn 1)),jg 42 37 true (.idx (.t 39) (.t 41) 2),jg 43 37 true (.sliceA (.t 42) 2 .s),jg 44 37 true (.sliceA (.t 4) 2 .s),.mk (some 45) (some (37,true)) false (.call (jf 46) [.t 43,.t 44]),jg 46 37 true (.bin .geq (.t 45) (jn 0)),jg 47 34 false (.pick (.t 37) (.t 46) kf),jv 48 (.pick (.t 34) kt (.t 47))] []) zlg)
def zkP:AC:=(.reg [] [jv 49 (.bin .add (.t 12) (jn 1)),jm 12 49] [])
def zrr:AC:=(.seq (.block 1 (.seq (.reg [.clr [4]] [jm 14 12,jv 15 (.idx (.t 10) (.t 12) 2),jv 16 (.load (.ag [.s,.s]) (.t 15)),jx 4 (.alloc (.agg [i0,i0])),jm 3 14,jz (.store (.ag [.s,.s]) (.t 4) (.t 16))] []) zpr)) zkP)
def zpA:AC:=(.seq (.cond (.t 13) .skip (.exit 0)) zrr)
def NM:AC:=(.seq (.reg [] [jv 13 (.bin .lss (.t 12) (.t 11))] []) zpA)
def zff:AC:=(.seq (.reg [] [jv 2 (.mov kt)] []) .ret)
def zpv:AC:=(.cond (.t 8) (.seq (.reg [] [jv 2 (.mov kf)] []) .ret) .skip)
def znw:AC:=(.block 0 (.loop NM))
def zmf:AC:=(.seq (.seq (.reg [] [jv 9 (.fld (.t 1) 1 1),jv 10 (.load .p (.t 9)),jv 11 (.len (.t 10)),jv 12 (.mov (jn 0))] []) znw) zff)
def zsy:AC:=(.seq (.seq (.reg [] [jv 5 (.fld (.t 1) 0 0),jv 6 (.load .s (.t 5)),jx 7 (.call (jf 45) [.t 6,jn 0,jn 8]),jv 8 (.un .not (.t 7))] []) zpv) zmf)
def A19:AC:=(.seq (.reg [.clr [1]] [jx 1 (.box (.t 0)),jv 2 (.mov kf)] []) zsy)
def zt3:List An:=[⟨0,[.clr [1]],[],[],[]⟩,⟨5,[.clr [4]],[],[],[]⟩]
theorem c19:cC Try.prog Try.f19.ntmps zt3 (Try.f19.body.getD .skip)=some A19:=by kernel_rfl
structure H19 (D:Den) (σ:Sig) (F:Nat):Prop where
 c45:C45 (D 45) F
 g45:σ 45=some (0,false)
 c46:C46 (D 46) F
 g46:σ 46=some (0,false)
abbrev R19 (r:Bool):(Nat→V)→Prop:=RR Try.prog [.tmp 2] 0 false (Enc.enc (r:Bool))
section
variable {D:Den} {σ:Sig} {F:Nat} {r:Bool}
def vH (F:Nat) (x_1:GR) (x_9:Int) (c1:Int→Option Bool) (x_19:Bool):Option Bool:=
 bif x_19 then
  some false
 else
  c1 (w64 (x_9 + 1))
theorem Uf (H:H19 D σ F) (x_1:GR) (x_9:Int) (c1:Int→Option Bool) (Hc1:∀ (x_9:Int) (s:Nat→V),zl [(1,bG 1 x_1),(2,jb false),(10,eP x_1.2),(11,ji (x_1.2.length:Int)),(12,ji x_9)] s→c1 x_9=some r→Run D σ (R19 r) (.run NM [.lp NM,.bk 0,.sq zff]) s) (x_19:Bool) (s:Nat→V) (hs:zl [(1,bG 1 x_1),(2,jb false),(10,eP x_1.2),(11,ji (x_1.2.length:Int)),(12,ji x_9),(48,jb x_19)] s) (h:vH F x_1 x_9 c1 x_19=some r):Run D σ (R19 r) (.nrm [.sq zlg,.bk 1,.sq zkP,.lp NM,.bk 0,.sq zff]) s:=by
 unfold vH at h
 obtain ⟨h1,h2,h10,h11,h12,h48⟩:=hs
 refine .nsq (zk (t:=x_19) h48 h (fun h=>?_) (fun h=>?_))
 · refine .seq (rg (g0 (jb false) fun h2=>gq (.nsq (.ret ?_))))
   have hr:=Option.some.inj h
   subst hr
   exact rrA (zn h2) rfl
 refine .skip (.nbk (.nsq (rg (g1 12 (ji (w64 (x_9 + 1))) h12 fun h49=>gm h49 fun h12=>gq (.nlp ?_)))))
 exact Hc1 (w64 (x_9 + 1)) _ ⟨h1,h2,h10,h11,h12⟩ h
def yZ (F:Nat) (x_1:GR) :Nat→Int→Option Bool
 | 0,_=>none
 | k + 1,x_9=>
   bif decide (x_9 < (x_1.2.length:Int)) then
    (idx x_1.2 x_9).bind fun e_16=>
    bif decide (e_16.1 < 0) then
     vH F x_1 x_9 (yZ F x_1 k) true
    else
     bif decide (e_16.1≥e_16.2) then
      vH F x_1 x_9 (yZ F x_1 k) true
     else
      bif decide (e_16.2≥x_1.1) then
       vH F x_1 x_9 (yZ F x_1 k) true
      else
       bif decide (x_9 > 0) then
        (idx x_1.2 (w64 (x_9 - 1))).bind fun e_20=>
        (xX F [e_20.1,e_20.2] [e_16.1,e_16.2]).bind fun r_21=>
        vH F x_1 x_9 (yZ F x_1 k) (decide (r_21≥0))
       else
        vH F x_1 x_9 (yZ F x_1 k) false
   else
    some true
theorem ziA (H:H19 D σ F) (x_1:GR) :∀ (k:Nat) (x_9:Int) (s:Nat→V),zl [(1,bG 1 x_1),(2,jb false),(10,eP x_1.2),(11,ji (x_1.2.length:Int)),(12,ji x_9)] s→yZ F x_1 k x_9=some r→Run D σ (R19 r) (.run NM [.lp NM,.bk 0,.sq zff]) s:=by
 intro k
 induction k with
 | zero=>intro x_9 s _ h;exact nm h
 | succ k ih=>
   intro x_9 s hs h
   rw [yZ] at h
   obtain ⟨h1,h2,h10,h11,h12⟩:=hs
   refine .seq (rg (g2 12 11 (jb (decide (x_9 < (x_1.2.length:Int)))) h12 h11 fun h13=>gq (.nsq (.seq (zk (t:=decide (x_9 < (x_1.2.length:Int))) h13 h (fun h=>?_) (fun h=>?_))))))
   · refine .skip (.nsq (.seq (.block (.seq (zq (zS ?_))))))
     refine ez [(1,_),(2,_),(4,_),(10,_),(11,_),(12,_)] ⟨za h1 rfl (zf rfl mIE),za h2 rfl mb,zc rfl,za h10 rfl me,za h11 rfl mi,za h12 rfl mi⟩ ?_
     rintro s ⟨h1,h2,h4,h10,h11,h12⟩
     refine gm h12 fun h14=>?_
     obtain ⟨e_16,E_e_16,h⟩:=bind_some h
     refine gv (.ref .sh 0 [] (.agg [ji e_16.1,ji e_16.2])) (yz (t:=.sh) (lo:=0) (xs:=x_1.2) h10 h12 E_e_16 rfl rfl) fun h15=>g1 15 (.agg [ji e_16.1,ji e_16.2]) h15 fun h16=>xk h4 (gm h14 fun h3=>yb (.agg [ji e_16.1,ji e_16.2]) (zw rfl rfl) (zw h16 rfl) (wj (by first | rfl | simp [V.toks,V.tokss,Enc.toks_enc,ya])) (gz [(1,bG 1 x_1),(2,jb false),(3,ji x_9),(4,.ref (.bx 4) 0 [] (.agg [ji e_16.1,ji e_16.2])),(10,eP x_1.2),(11,ji (x_1.2.length:Int)),(12,ji x_9)] ⟨zb h1 (zC rfl rfl uIE),zb h2 rfl,zb h3 rfl,zb rfl rfl,zb h10 uE,zb h11 rfl,zb h12 rfl⟩ ?_))
     rintro s ⟨h1,h2,h3,h4,h10,h11,h12⟩
     refine .nsq (.seq (rg (g1 4 (.ref (.bx 4) 0 [0] (ji e_16.1)) h4 fun h17=>g1 17 (ji e_16.1) h17 fun h18=>g1 18 (jb (decide (e_16.1 < 0))) h18 fun h19=>gm h19 fun h20=>zW (c:=decide (e_16.1 < 0)) h (fun hg4 h=>?_) (fun hg4 h=>?_))))
     · iterate 5 refine z9 (ct h20 hg4) ?_
       refine g2 20 25 (jb true) (ct h20 hg4) (rf (.tup [])) fun h26=>gm h26 fun h27=>z9 h27 ?_
       iterate 4 refine z9 h27 ?_
       refine g2 27 32 (jb true) h27 (rf (.tup [])) fun h33=>gm h33 fun h34=>z9 h34 ?_
       iterate 2 refine z9 h34 ?_
       iterate 9 refine uw rfl ?_
       refine z9 h34 (g2 34 47 (jb true) h34 (rf (.tup [])) fun h48=>gz [(1,_),(2,_),(10,_),(11,_),(12,_),(48,_)] ⟨h1,h2,h10,h11,h12,h48⟩ ?_)
       rintro s ⟨h1,h2,h10,h11,h12,h48⟩
       exact Uf H x_1 x_9 (yZ F x_1 k) ih true _ ⟨h1,h2,h10,h11,h12,h48⟩ h
     refine zg (ct h20 hg4) (g1 4 (.ref (.bx 4) 0 [0] (ji e_16.1)) h4 fun h21=>zg (ct h20 hg4) (g1 21 (ji e_16.1) h21 fun h22=>zg (ct h20 hg4) (g1 4 (.ref (.bx 4) 0 [1] (ji e_16.2)) h4 fun h23=>zg (ct h20 hg4) (g1 23 (ji e_16.2) h23 fun h24=>zg (ct h20 hg4) (g2 22 24 (jb (decide (e_16.1≥e_16.2))) h22 h24 fun h25=>g2 20 25 (jb (decide (e_16.1≥e_16.2))) (ct h20 hg4) h25 fun h26=>gm h26 fun h27=>zW (c:=decide (e_16.1≥e_16.2)) h (fun hg11 h=>?_) (fun hg11 h=>?_))))))
     · iterate 5 refine z9 (ct h27 hg11) ?_
       refine g2 27 32 (jb true) (ct h27 hg11) (rf (.tup [])) fun h33=>gm h33 fun h34=>z9 h34 ?_
       iterate 2 refine z9 h34 ?_
       iterate 9 refine uw rfl ?_
       refine z9 h34 (g2 34 47 (jb true) h34 (rf (.tup [])) fun h48=>gz [(1,_),(2,_),(10,_),(11,_),(12,_),(48,_)] ⟨h1,h2,h10,h11,h12,h48⟩ ?_)
       rintro s ⟨h1,h2,h10,h11,h12,h48⟩
       exact Uf H x_1 x_9 (yZ F x_1 k) ih true _ ⟨h1,h2,h10,h11,h12,h48⟩ h
     refine zg (ct h27 hg11) (g1 4 (.ref (.bx 4) 0 [1] (ji e_16.2)) h4 fun h28=>zg (ct h27 hg11) (g1 28 (ji e_16.2) h28 fun h29=>zg (ct h27 hg11) (g1 1 (.ref (.bx 1) 0 [0] (ji x_1.1)) h1 fun h30=>zg (ct h27 hg11) (g1 30 (ji x_1.1) h30 fun h31=>zg (ct h27 hg11) (g2 29 31 (jb (decide (e_16.2≥x_1.1))) h29 h31 fun h32=>g2 27 32 (jb (decide (e_16.2≥x_1.1))) (ct h27 hg11) h32 fun h33=>gm h33 fun h34=>zW (c:=decide (e_16.2≥x_1.1)) h (fun hg18 h=>?_) (fun hg18 h=>?_))))))
     · iterate 3 refine z9 (ct h34 hg18) ?_
       iterate 9 refine uw rfl ?_
       refine z9 (ct h34 hg18) (g2 34 47 (jb true) (ct h34 hg18) (rf (.tup [])) fun h48=>gz [(1,_),(2,_),(10,_),(11,_),(12,_),(48,_)] ⟨h1,h2,h10,h11,h12,h48⟩ ?_)
       rintro s ⟨h1,h2,h10,h11,h12,h48⟩
       exact Uf H x_1 x_9 (yZ F x_1 k) ih true _ ⟨h1,h2,h10,h11,h12,h48⟩ h
     refine zg (ct h34 hg18) (gm h3 fun h35=>zg (ct h34 hg18) (g1 35 (jb (decide (x_9 > 0))) h35 fun h36=>zg (ct h34 hg18) (gm h36 fun h37=>zW (c:=decide (x_9 > 0)) h (fun hg21 h=>?_) (fun hg21 h=>?_))))
     · refine zg (ct h37 hg21) (g1 1 (.ref (.bx 1) 0 [1] (eP x_1.2)) h1 fun h38=>zg (ct h37 hg21) (g1 38 (eP x_1.2) h38 fun h39=>zg (ct h37 hg21) (gm h3 fun h40=>zg (ct h37 hg21) (g1 40 (ji (w64 (x_9 - 1))) h40 fun h41=>?_))))
       obtain ⟨e_20,E_e_20,h⟩:=bind_some h
       refine zg (ct h37 hg21) (gv (.ref .sh 0 [] (.agg [ji e_20.1,ji e_20.2])) (yz (t:=.sh) (lo:=0) (xs:=x_1.2) h39 h41 E_e_20 rfl rfl) fun h42=>zg (ct h37 hg21) (g1 42 (eL [e_20.1,e_20.2]) h42 fun h43=>zg (ct h37 hg21) (g1 4 (zi (.bx 4) (.of ([e_16.1,e_16.2]:LI))) h4 fun h44=>?_)))
       obtain ⟨r_21,E_r_21,h⟩:=bind_some h
       refine zg (ct h37 hg21) (zF (m:=0) (al:=false) (r:=Enc.enc (r_21:Int)) [Enc.enc ([e_20.1,e_20.2]:LI),Enc.enc ([e_16.1,e_16.2]:LI)] (ze (v:=eL [e_20.1,e_20.2]) h43 rfl (Enc.erase_enc ([e_20.1,e_20.2]:LI)) (ze (v:=zi (.bx 4) (.of ([e_16.1,e_16.2]:LI))) h44 rfl (vm (o:=.of [e_16.1,e_16.2])) zx)) (H.c46 _ _ _ E_r_21) H.g46 rfl rfl rfl rfl (zg (ct h37 hg21) (g1 45 (jb (decide (r_21≥0))) (rf (ji r_21)) fun h46=>zg (ct h34 hg18) (g2 37 46 (jb (decide (r_21≥0))) (ct h37 hg21) h46 fun h47=>g2 34 47 (jb (decide (r_21≥0))) (ct h34 hg18) h47 fun h48=>?_))))
       refine gz [(1,_),(2,_),(10,_),(11,_),(12,_),(48,_)] ⟨h1,h2,h10,h11,h12,h48⟩ ?_
       rintro s ⟨h1,h2,h10,h11,h12,h48⟩
       exact Uf H x_1 x_9 (yZ F x_1 k) ih (decide (r_21≥0)) _ ⟨h1,h2,h10,h11,h12,h48⟩ h
     iterate 9 refine z9 (ct h37 hg21) ?_
     refine zg (ct h34 hg18) (g2 37 46 (jb false) (ct h37 hg21) (rf (.tup [])) fun h47=>g2 34 47 (jb false) (ct h34 hg18) h47 fun h48=>gz [(1,_),(2,_),(10,_),(11,_),(12,_),(48,_)] ⟨h1,h2,h10,h11,h12,h48⟩ ?_)
     rintro s ⟨h1,h2,h10,h11,h12,h48⟩
     exact Uf H x_1 x_9 (yZ F x_1 k) ih false _ ⟨h1,h2,h10,h11,h12,h48⟩ h
   refine .exit (.esq (.elp (.ebk (.nsq (.seq (rg (g0 (jb true) fun h2=>gq (.nsq (.ret ?_)))))))))
   have hr:=Option.some.inj h
   subst hr
   exact rrA (zn h2) rfl
def wq (F:Nat) (x_1:GR):Option Bool:=
 (YX F x_1.1 0 8).bind fun r_2=>
 bif (!r_2) then
  some false
 else
  yZ F x_1 F 0
theorem t19 (H:H19 D σ F) (x_1:GR) (s:Nat→V) (hs:zl [(0,gV x_1)] s) (h:wq F x_1=some r):Run D σ (R19 r) (.run A19 []) s:=by
 unfold wq at h
 have h0:=hs
 refine .seq (zq (zS ?_))
 refine ez [(0,_),(1,_)] ⟨za h0 rfl mIE,zc rfl⟩ ?_
 rintro s ⟨h0,h1⟩
 refine xz (gV x_1) (zw h0 rfl) h1 rfl (g0 (jb false) fun h2=>gq (.nsq (.seq (.seq (rg (g1 1 (.ref (.bx 1) 0 [0] (ji x_1.1)) (rf (bG 1 x_1)) fun h5=>g1 5 (ji x_1.1) h5 fun h6=>?_))))))
 obtain ⟨r_2,E_r_2,h⟩:=bind_some h
 refine zF (m:=0) (al:=false) (r:=Enc.enc (r_2:Bool)) [Enc.enc (x_1.1:Int),Enc.enc (0:Int),Enc.enc (8:Int)] (ze (v:=ji x_1.1) h6 rfl rfl (ze (v:=ji 0) rfl rfl rfl (ze (v:=ji 8) rfl rfl rfl zx))) (H.c45 _ _ _ _ E_r_2) H.g45 rfl rfl rfl rfl (g1 7 (jb (!r_2)) (rf (jb r_2)) fun h8=>gq (.nsq (zk (t:=(!r_2)) h8 h (fun h=>?_) (fun h=>?_))))
 · refine .seq (rg (g0 (jb false) fun h2=>gq (.nsq (.ret ?_))))
   have hr:=Option.some.inj h
   subst hr
   exact rrA (zn h2) rfl
 refine .skip (.nsq (.seq (.seq (rg (g1 1 (.ref (.bx 1) 0 [1] (eP x_1.2)) (rf (bG 1 x_1)) fun h9=>g1 9 (eP x_1.2) h9 fun h10=>gv (ji (x_1.2.length:Int)) (yu (xs:=x_1.2) h10) fun h11=>g0 (ji 0) fun h12=>gq (.nsq (.block (.loop ?_))))))))
 exact ziA H x_1 F 0 _ ⟨rfl,h2,h10,h11,h12⟩ h
end
def e19 (F:Nat):Ent:=ent 19 (fun (x:(GR×Unit))=>wq F x.1) (fun (r:Bool)=>(Enc.enc (r:Bool))) 0 false []
abbrev C19 (D:List V→Option V) (F:Nat):Prop:=∀ (x0:GR) r,wq F x0=some r→D [Enc.enc x0]=some (Enc.enc (r:Bool))
theorem p19 {F:Nat}:C19 (e19 F).den F:=fun x0 _ h=>zN (x0,()) h
theorem o19 {D:Den} {σ:Sig} {F:Nat} (hF:zy Try.prog D σ) (H:H19 D σ F):(e19 F).Ok Try.prog:=by
 refine yl (f:=19) (show unk 19=19 from rfl) (fun args r h=>?_) ⟨Try.f19,Try.func19,rfl,rfl⟩
 obtain ⟨⟨x0,_⟩,y,rfl,hy,rfl⟩:=zM h
 exact zm hF (by kernel_rfl) Try.func19 rfl c19 (show 1≤Try.f19.ntmps by decide) (t19 H x0 _ rfl hy)
def zsS:AC:=(.reg [] [jv 28 (.fld (.t 3) 0 0),jv 29 (.load .p (.t 28)),jv 30 (.idxA (.t 5) (jn 1) 2 1),jv 31 (.load .s (.t 30)),jv 32 (.idx (.t 29) (.t 31) 1),jv 33 (.load .s (.t 32)),jv 34 (.idxA (.t 5) (jn 0) 2 1),jv 35 (.load .s (.t 34)),jv 36 (.bin .shl (jn 1) (.t 35)),jv 37 (.bin .or (.t 33) (.t 36)),jv 38 (.idx (.t 29) (.t 31) 1),jz (.store .s (.t 38) (.t 37))] [])
def zrg:AC:=(.seq (.reg [] [jv 17 (.fld (.t 3) 0 0),jv 18 (.load .p (.t 17)),jv 19 (.idxA (.t 5) (jn 0) 2 1),jv 20 (.load .s (.t 19)),jv 21 (.idx (.t 18) (.t 20) 1),jv 22 (.load .s (.t 21)),jv 23 (.idxA (.t 5) (jn 1) 2 1),jv 24 (.load .s (.t 23)),jv 25 (.bin .shl (jn 1) (.t 24)),jv 26 (.bin .or (.t 22) (.t 25)),jv 27 (.idx (.t 18) (.t 20) 1),jz (.store .s (.t 27) (.t 26))] []) zsS)
def zrm:AC:=(.reg [] [jv 39 (.bin .add (.t 13) (jn 1)),jm 13 39] [])
def zqR:AC:=(.seq (.block 1 (.seq (.reg [.clr [5]] [jv 15 (.idx (.t 11) (.t 13) 2),jv 16 (.load (.ag [.s,.s]) (.t 15)),jx 5 (.alloc (.agg [i0,i0])),jz (.store (.ag [.s,.s]) (.t 5) (.t 16))] []) zrg)) zrm)
def zpX:AC:=(.seq (.cond (.t 14) .skip (.exit 0)) zqR)
def zgs:AC:=(.seq (.reg [] [jv 14 (.bin .lss (.t 13) (.t 12))] []) zpX)
def zkQ:AC:=(.seq (.reg [] [jv 40 (.load (.ag [.p]) (.t 3)),jz (.store (.ag [.p]) (.t 2) (.t 40))] []) .ret)
def znV:AC:=(.block 0 (.loop zgs))
def zpz:AC:=(.seq (.seq (.reg [] [jv 10 (.fld (.t 1) 1 1),jv 11 (.load .p (.t 10)),jv 12 (.len (.t 11)),jv 13 (.mov (jn 0))] []) znV) zkQ)
def zqZ:AC:=(.seq (.reg [.clr [8,3]] [jv 6 (.fld (.t 1) 0 0),jv 7 (.load .s (.t 6)),jx 8 (.mk (.t 7) i0 i0),jv 9 (.bld (.agg [.sl .nl .s 0 []]) [(0,0,.t 8)]),jx 3 (.alloc (.agg [.sl .nl .s 0 []])),jz (.store (.ag [.p]) (.t 3) (.t 9))] []) zpz)
def A20:AC:=(.seq (.reg [.clr [1,2]] [jx 1 (.box (.t 0)),jx 2 (.alloc (.agg [.sl .nl .s 0 []]))] []) zqZ)
def zu2:List An:=[⟨0,[.clr [1,2]],[],[],[]⟩,⟨1,[.clr [8,3]],[],[],[]⟩,⟨4,[.clr [5]],[],[],[]⟩]
theorem c20:cC Try.prog Try.f20.ntmps zu2 (Try.f20.body.getD .skip)=some A20:=by kernel_rfl
structure H20 (D:Den) (σ:Sig) (F:Nat):Prop where
 mk ::
abbrev R20 (r:(S1 LI)):(Nat→V)→Prop:=RR Try.prog [.cell 2 44] 0 false (Enc.enc (r:(S1 LI)))
section
variable {D:Den} {σ:Sig} {F:Nat} {r:(S1 LI)}
def ZG (F:Nat) (x_1:GR) :Nat→LI→Int→Option (S1 LI)
 | 0,_,_=>none
 | k + 1,x_10,x_11=>
   bif decide (x_11 < (x_1.2.length:Int)) then
    (idx x_1.2 x_11).bind fun e_19=>
    (idx x_10 e_19.1).bind fun e_20=>
    (vR .i64 1 e_19.2).bind fun q_21=>
    (idx x_10 e_19.1).bind fun e_22=>
    (idx (x_10.set e_19.1.toNat (ior .i64 e_20 q_21)) e_19.2).bind fun e_23=>
    (vR .i64 1 e_19.1).bind fun q_24=>
    (idx (x_10.set e_19.1.toNat (ior .i64 e_20 q_21)) e_19.2).bind fun e_25=>
    (ZG F x_1 k) ((x_10.set e_19.1.toNat (ior .i64 e_20 q_21)).set e_19.2.toNat (ior .i64 e_23 q_24)) (w64 (x_11 + 1))
   else
    some (S1.mk x_10)
theorem zil (H:H20 D σ F) (x_1:GR) :∀ (k:Nat) (x_10:LI) (x_11:Int) (s:Nat→V),zl [(2,.ref (.bx 2) 0 [] (.agg [nI])),(3,.ref (.bx 3) 0 [] (.agg [oI 8 [] (.of x_10)])),(11,eP x_1.2),(12,ji (x_1.2.length:Int)),(13,ji x_11)] s→ZG F x_1 k x_10 x_11=some r→Run D σ (R20 r) (.run zgs [.lp zgs,.bk 0,.sq zkQ]) s:=by
 intro k
 induction k with
 | zero=>intro x_10 x_11 s _ h;exact nm h
 | succ k ih=>
   intro x_10 x_11 s hs h
   rw [ZG] at h
   obtain ⟨h2,h3,h11,h12,h13⟩:=hs
   refine .seq (rg (g2 13 12 (jb (decide (x_11 < (x_1.2.length:Int)))) h13 h12 fun h14=>gq (.nsq (.seq (zk (t:=decide (x_11 < (x_1.2.length:Int))) h14 h (fun h=>?_) (fun h=>?_))))))
   · refine .skip (.nsq (.seq (.block (.seq (zq (zS ?_))))))
     refine ez [(2,_),(3,_),(5,_),(11,_),(12,_),(13,_)] ⟨za h2 rfl (zf rfl (zA (zd rfl zh))),za h3 rfl (zf rfl (zA (zd (zj (r:=8) (p:=[]) rfl rfl) zh))),zc rfl,za h11 rfl me,za h12 rfl mi,za h13 rfl mi⟩ ?_
     rintro s ⟨h2,h3,h5,h11,h12,h13⟩
     obtain ⟨e_19,E_e_19,h⟩:=bind_some h
     refine gv (.ref .sh 0 [] (.agg [ji e_19.1,ji e_19.2])) (yz (t:=.sh) (lo:=0) (xs:=x_1.2) h11 h13 E_e_19 rfl rfl) fun h15=>g1 15 (.agg [ji e_19.1,ji e_19.2]) h15 fun h16=>xk h5 (yb (.agg [ji e_19.1,ji e_19.2]) (zw rfl rfl) (zw h16 rfl) (wj (by first | rfl | simp [V.toks,V.tokss,Enc.toks_enc,ya])) ?_)
     refine gz [(2,.ref (.bx 2) 0 [] (.agg [nI])),(3,.ref (.bx 3) 0 [] (.agg [oI 8 [] (.of x_10)])),(5,.ref (.bx 5) 0 [] (.agg [ji e_19.1,ji e_19.2])),(11,eP x_1.2),(12,ji (x_1.2.length:Int)),(13,ji x_11)] ⟨zb h2 (zC rfl rfl (yr (zp rfl rfl))),zb h3 (zC rfl rfl (yr (zp (uf rfl rfl) rfl))),zb rfl rfl,zb h11 uE,zb h12 rfl,zb h13 rfl⟩ ?_
     rintro s ⟨h2,h3,h5,h11,h12,h13⟩
     refine .nsq (.seq (rg (g1 3 (.ref (.bx 3) 0 [0] (oI 8 [] (.of x_10))) h3 fun h17=>g1 17 (oI 8 [] (.of x_10)) h17 fun h18=>g1 5 (.ref (.bx 5) 0 [0] (ji e_19.1)) h5 fun h19=>g1 19 (ji e_19.1) h19 fun h20=>?_)))
     obtain ⟨e_20,E_e_20,h⟩:=bind_some h
     refine gv (.ref (.at 8 []) e_19.1.toNat [] (ji e_20)) (wE (o:=.of x_10) h18 h20 E_e_20 rfl) fun h21=>g1 21 (ji e_20) h21 fun h22=>g1 5 (.ref (.bx 5) 0 [1] (ji e_19.2)) h5 fun h23=>g1 23 (ji e_19.2) h23 fun h24=>?_
     obtain ⟨q_21,E_q_21,h⟩:=bind_some h
     refine gv (ji q_21) (wP rfl h24 E_q_21) fun h25=>g2 22 25 (ji (ior .i64 e_20 q_21)) h22 h25 fun h26=>?_
     obtain ⟨e_22,E_e_22,h⟩:=bind_some h
     refine gv (.ref (.at 8 []) e_19.1.toNat [] (ji e_22)) (wE (o:=.of x_10) h18 h20 E_e_22 rfl) fun h27=>yb (ji (ior .i64 e_20 q_21)) (zw h27 rfl) (zw h26 rfl) (wj (by first | rfl | simp [V.toks,V.tokss,Enc.toks_enc,ya])) ?_
     refine gz [(2,.ref (.bx 2) 0 [] (.agg [nI])),(3,.ref (.bx 3) 0 [] (.agg [oI 8 [] (.of (x_10.set e_19.1.toNat (ior .i64 e_20 q_21)))])),(5,.ref (.bx 5) 0 [] (.agg [ji e_19.1,ji e_19.2])),(11,eP x_1.2),(12,ji (x_1.2.length:Int)),(13,ji x_11)] ⟨zb h2 (zC rfl rfl (yr (zp rfl rfl))),zb h3 (zC rfl rfl (yr (zp X0 rfl))),zb h5 rfl,zb h11 uE,zb h12 rfl,zb h13 rfl⟩ ?_
     rintro s ⟨h2,h3,h5,h11,h12,h13⟩
     refine .nsq (rg (g1 3 (.ref (.bx 3) 0 [0] (oI 8 [] (.of (x_10.set e_19.1.toNat (ior .i64 e_20 q_21))))) h3 fun h28=>g1 28 (oI 8 [] (.of (x_10.set e_19.1.toNat (ior .i64 e_20 q_21)))) h28 fun h29=>g1 5 (.ref (.bx 5) 0 [1] (ji e_19.2)) h5 fun h30=>g1 30 (ji e_19.2) h30 fun h31=>?_))
     obtain ⟨e_23,E_e_23,h⟩:=bind_some h
     refine gv (.ref (.at 8 []) e_19.2.toNat [] (ji e_23)) (wE (o:=.of (x_10.set e_19.1.toNat (ior .i64 e_20 q_21))) h29 h31 E_e_23 rfl) fun h32=>g1 32 (ji e_23) h32 fun h33=>g1 5 (.ref (.bx 5) 0 [0] (ji e_19.1)) h5 fun h34=>g1 34 (ji e_19.1) h34 fun h35=>?_
     obtain ⟨q_24,E_q_24,h⟩:=bind_some h
     refine gv (ji q_24) (wP rfl h35 E_q_24) fun h36=>g2 33 36 (ji (ior .i64 e_23 q_24)) h33 h36 fun h37=>?_
     obtain ⟨e_25,E_e_25,h⟩:=bind_some h
     refine gv (.ref (.at 8 []) e_19.2.toNat [] (ji e_25)) (wE (o:=.of (x_10.set e_19.1.toNat (ior .i64 e_20 q_21))) h29 h31 E_e_25 rfl) fun h38=>yb (ji (ior .i64 e_23 q_24)) (zw h38 rfl) (zw h37 rfl) (wj (by first | rfl | simp [V.toks,V.tokss,Enc.toks_enc,ya])) ?_
     refine gz [(2,.ref (.bx 2) 0 [] (.agg [nI])),(3,.ref (.bx 3) 0 [] (.agg [oI 8 [] (.of ((x_10.set e_19.1.toNat (ior .i64 e_20 q_21)).set e_19.2.toNat (ior .i64 e_23 q_24)))])),(11,eP x_1.2),(12,ji (x_1.2.length:Int)),(13,ji x_11)] ⟨zb h2 (zC rfl rfl (yr (zp rfl rfl))),zb h3 (zC rfl rfl (yr (zp X0 rfl))),zb h11 uE,zb h12 rfl,zb h13 rfl⟩ ?_
     rintro s ⟨h2,h3,h11,h12,h13⟩
     refine .nbk (.nsq (rg (g1 13 (ji (w64 (x_11 + 1))) h13 fun h39=>gm h39 fun h13=>gq (.nlp ?_))))
     exact ih ((x_10.set e_19.1.toNat (ior .i64 e_20 q_21)).set e_19.2.toNat (ior .i64 e_23 q_24)) (w64 (x_11 + 1)) _ ⟨h2,h3,h11,h12,h13⟩ h
   refine .exit (.esq (.elp (.ebk (.nsq (.seq (rg (g1 3 (.agg [oI 8 [] (.of x_10)]) h3 fun h40=>yb (.agg [oI 8 [] (.of x_10)]) (zw h2 rfl) (zw h40 rfl) (wj (by first | rfl | simp [V.toks,V.tokss,Enc.toks_enc,ya])) (gz [(2,.ref (.bx 2) 0 [] (.agg [oI 8 [] (.of x_10)]))] (zb h2 rfl) ?_))))))))
   rintro s h2
   refine .nsq (.ret ?_)
   have hr:=Option.some.inj h
   subst hr
   exact rrA (wN h2 (by kernel_rfl)) (vh (Q7 (xe (vA (o:=.of x_10)) uj)) (XB (x9 (xB rfl) u6)))
def vS (F:Nat) (x_1:GR):Option (S1 LI):=
 (mkN x_1.1 (0:Int)).bind fun mk_2=>
 ZG F x_1 F mk_2 0
theorem t20 (H:H20 D σ F) (x_1:GR) (s:Nat→V) (hs:zl [(0,gV x_1)] s) (h:vS F x_1=some r):Run D σ (R20 r) (.run A20 []) s:=by
 unfold vS at h
 have h0:=hs
 refine .seq (zq (zS ?_))
 refine ez [(0,_),(1,_),(2,_)] ⟨za h0 rfl mIE,zc rfl,zc rfl⟩ ?_
 rintro s ⟨h0,h1,h2⟩
 refine xz (gV x_1) (zw h0 rfl) h1 rfl (xk h2 (gq (.nsq (.seq (zq (zS ?_))))))
 refine ez [(1,_),(2,_),(3,_),(8,_)] ⟨za rfl rfl (zf rfl mIE),za rfl rfl (zf rfl (zA (zd rfl zh))),zc rfl,zc rfl⟩ ?_
 rintro s ⟨h1,h2,h3,h8⟩
 refine g1 1 (.ref (.bx 1) 0 [0] (ji x_1.1)) h1 fun h6=>g1 6 (ji x_1.1) h6 fun h7=>?_
 obtain ⟨mk_2,E_mk_2,h⟩:=bind_some h
 refine zki (0:Int) h7 rfl h8 E_mk_2 (g1 8 (.agg [oI 8 [] (.of mk_2)]) (rf (oI 8 [] (.of mk_2))) fun h9=>xk h3 (yb (.agg [oI 8 [] (.of mk_2)]) (zw rfl rfl) (zw h9 rfl) (wj (by first | rfl | simp [V.toks,V.tokss,Enc.toks_enc,ya])) (gz [(1,bG 1 x_1),(2,.ref (.bx 2) 0 [] (.agg [nI])),(3,.ref (.bx 3) 0 [] (.agg [oI 8 [] (.of mk_2)]))] ⟨zb h1 (zC rfl rfl uIE),zb h2 (zC rfl rfl (yr (zp rfl rfl))),zb rfl rfl⟩ ?_)))
 rintro s ⟨h1,h2,h3⟩
 refine .nsq (.seq (.seq (rg (g1 1 (.ref (.bx 1) 0 [1] (eP x_1.2)) h1 fun h10=>g1 10 (eP x_1.2) h10 fun h11=>gv (ji (x_1.2.length:Int)) (yu (xs:=x_1.2) h11) fun h12=>g0 (ji 0) fun h13=>gq (.nsq (.block (.loop ?_)))))))
 exact zil H x_1 F mk_2 0 _ ⟨h2,h3,h11,h12,h13⟩ h
end
def e20 (F:Nat):Ent:=ent 20 (fun (x:(GR×Unit))=>vS F x.1) (fun (r:(S1 LI))=>(Enc.enc (r:(S1 LI)))) 0 false []
abbrev C20 (D:List V→Option V) (F:Nat):Prop:=∀ (x0:GR) r,vS F x0=some r→D [Enc.enc x0]=some (Enc.enc (r:(S1 LI)))
theorem p20 {F:Nat}:C20 (e20 F).den F:=fun x0 _ h=>zN (x0,()) h
theorem o20 {D:Den} {σ:Sig} {F:Nat} (hF:zy Try.prog D σ) (H:H20 D σ F):(e20 F).Ok Try.prog:=by
 refine yl (f:=20) (show unk 20=20 from rfl) (fun args r h=>?_) ⟨Try.f20,Try.func20,rfl,rfl⟩
 obtain ⟨⟨x0,_⟩,y,rfl,hy,rfl⟩:=zM h
 exact zm hF (by kernel_rfl) Try.func20 rfl c20 (show 1≤Try.f20.ntmps by decide) (t20 H x0 _ rfl hy)
def zp7:AC:=(.seq (.reg [] [jv 3 (.fld (.t 1) 0 0),jv 4 (.load .p (.t 3)),jv 5 (.len (.t 4)),jv 6 (.bin .shl (jn 1) (.t 5)),jv 7 (.bin .sub (.t 6) (jn 1)),jm 2 7] []) .ret)
def A28:AC:=(.seq (.reg [.clr [1]] [jx 1 (.box (.t 0)),jv 2 (.mov (jn 0))] []) zp7)
def ztv:List An:=[⟨0,[.clr [1]],[],[],[]⟩]
theorem c28:cC Try.prog Try.f28.ntmps ztv (Try.f28.body.getD .skip)=some A28:=by kernel_rfl
structure H28 (D:Den) (σ:Sig) (F:Nat):Prop where
 mk ::
abbrev R28 (r:Int):(Nat→V)→Prop:=RR Try.prog [.tmp 2] 0 false (Enc.enc (r:Int))
section
variable {D:Den} {σ:Sig} {F:Nat} {r:Int}
def yg (F:Nat) (x_1:(S1 LI)):Option Int:=
 (vR .i64 1 (x_1.a.length:Int)).bind fun q_2=>
 some (w64 (q_2 - 1))
theorem t28 (H:H28 D σ F) (x_1:(S1 LI)) (s:Nat→V) (hs:zl [(0,.agg [eL x_1.a])] s) (h:yg F x_1=some r):Run D σ (R28 r) (.run A28 []) s:=by
 unfold yg at h
 have h0:=hs
 refine .seq (zq (zS ?_))
 refine ez [(0,_),(1,_)] ⟨za h0 rfl (zA (zd me zh)),zc rfl⟩ ?_
 rintro s ⟨h0,h1⟩
 refine xz (.agg [eL x_1.a]) (zw h0 rfl) h1 rfl (g0 (ji 0) fun h2=>gq (.nsq (.seq (rg (g1 1 (.ref (.bx 1) 0 [0] (eL x_1.a)) (rf (.ref (.bx 1) 0 [] (.agg [eL x_1.a]))) fun h3=>g1 3 (eL x_1.a) h3 fun h4=>gv (ji (x_1.a.length:Int)) (yu (xs:=x_1.a) h4) fun h5=>?_)))))
 obtain ⟨q_2,E_q_2,h⟩:=bind_some h
 refine gv (ji q_2) (wP rfl h5 E_q_2) fun h6=>g1 6 (ji (w64 (q_2 - 1))) h6 fun h7=>gm h7 fun h2=>gq (.nsq (.ret ?_))
 have hr:=Option.some.inj h
 subst hr
 exact rrA (zn h2) rfl
end
def e28 (F:Nat):Ent:=ent 28 (fun (x:((S1 LI)×Unit))=>yg F x.1) (fun (r:Int)=>(Enc.enc (r:Int))) 0 false []
abbrev C28 (D:List V→Option V) (F:Nat):Prop:=∀ (x0:(S1 LI)) r,yg F x0=some r→D [Enc.enc x0]=some (Enc.enc (r:Int))
theorem p28 {F:Nat}:C28 (e28 F).den F:=fun x0 _ h=>zN (x0,()) h
theorem o28 {D:Den} {σ:Sig} {F:Nat} (hF:zy Try.prog D σ) (H:H28 D σ F):(e28 F).Ok Try.prog:=by
 refine yl (f:=28) (show unk 28=28 from rfl) (fun args r h=>?_) ⟨Try.f28,Try.func28,rfl,rfl⟩
 obtain ⟨⟨x0,_⟩,y,rfl,hy,rfl⟩:=zM h
 exact zm hF (by kernel_rfl) Try.func28 rfl c28 (show 1≤Try.f28.ntmps by decide) (t28 H x0 _ rfl hy)
def zrZ:AC:=(.cond (.t 8) .skip (.exit 0))
def zqe:AC:=(.cond (.t 15) (.reg [.clr [18,19]] [jm 16 3,jm 17 4,jx 18 (.lit i0 1 [(0,0,.t 17)]),jx 19 (.app .s (.t 16) (.t 18)),jm 3 19] [.home 19 3]) .skip)
def zli:AC:=(.reg [] [jm 9 4,jv 10 (.bin .add (.t 9) (jn 1)),jm 4 10] [])
def zr2:AC:=(.seq (.block 1 (.seq (.reg [] [jm 11 0,jm 12 4,jv 13 (.bin .shr (.t 11) (.t 12)),jv 14 (.bin .and (.t 13) (jn 1)),jv 15 (.bin .eql (.t 14) (jn 1))] []) zqe)) zli)
def NV:AC:=(.seq (.seq (.reg [] [jm 5 0,jm 6 4,jv 7 (.bin .shr (.t 5) (.t 6)),jv 8 (.bin .neq (.t 7) (jn 0))] []) zrZ) zr2)
def zdG:AC:=(.seq (.reg [] [jm 20 3,jm 2 20] [.home 3 2]) .ret)
def zqU:AC:=(.block 0 (.loop NV))
def zrO:AC:=(.seq (.seq (.reg [] [jv 4 (.mov (jn 0))] []) zqU) zdG)
def zsw:AC:=(.seq (.reg [] [jv 3 (.mov (.k (.sl .nl .s 0 [])))] []) zrO)
def A29:AC:=(.seq (.reg [] [jv 2 (.mov (.k (.sl .nl .s 0 [])))] []) zsw)
def ztj:List An:=[⟨6,[.clr [18,19]],[],[],[.home 19 3]⟩,⟨7,[],[],[],[.home 3 2]⟩]
theorem c29:cC Try.prog Try.f29.ntmps ztj (Try.f29.body.getD .skip)=some A29:=by kernel_rfl
structure H29 (D:Den) (σ:Sig) (F:Nat):Prop where
 mk ::
abbrev R29 (r:LI):(Nat→V)→Prop:=RR Try.prog [.tmp 2] 0 false (eL r)
section
variable {D:Den} {σ:Sig} {F:Nat} {r:LI}
def Yp (F:Nat) (x_1:Int) (x_8:Int) (c1:(NL Int)→Int→Option LI) (x_17:(NL Int)):Option LI:=
 c1 x_17 (w64 (x_8 + 1))
theorem zbu (H:H29 D σ F) (x_1:Int) (x_8:Int) (c1:(NL Int)→Int→Option LI) (Hc1:∀ (x_7:(NL Int)) (x_8:Int) (s:Nat→V),zl [(0,ji x_1),(2,nI),(3,oI 3 [] x_7),(4,ji x_8)] s→c1 x_7 x_8=some r→Run D σ (R29 r) (.run NV [.lp NV,.bk 0,.sq zdG]) s) (x_17:(NL Int)) (s:Nat→V) (hs:zl [(0,ji x_1),(2,nI),(3,oI 3 [] x_17),(4,ji x_8)] s) (h:Yp F x_1 x_8 c1 x_17=some r):Run D σ (R29 r) (.nrm [.bk 1,.sq zli,.lp NV,.bk 0,.sq zdG]) s:=by
 unfold Yp at h
 obtain ⟨h0,h2,h3,h4⟩:=hs
 refine .nbk (.nsq (rg (gm h4 fun h9=>g1 9 (ji (w64 (x_8 + 1))) h9 fun h10=>gm h10 fun h4=>gq (.nlp ?_))))
 exact Hc1 x_17 (w64 (x_8 + 1)) _ ⟨h0,h2,h3,h4⟩ h
def wM (F:Nat) (x_1:Int) :Nat→(NL Int)→Int→Option LI
 | 0,_,_=>none
 | k + 1,x_7,x_8=>
   (Wn .i64 x_1 x_8).bind fun q_14=>
   bif (q_14 != 0) then
    (Wn .i64 x_1 x_8).bind fun q_15=>
    bif ((yf .i64 q_15 1) == 1) then
     (wS x_7.list [x_8]).bind fun ap_18=>
     Yp F x_1 x_8 (wM F x_1 k) (.of ap_18)
    else
     Yp F x_1 x_8 (wM F x_1 k) x_7
   else
    some x_7.list
theorem ziC (H:H29 D σ F) (x_1:Int) :∀ (k:Nat) (x_7:(NL Int)) (x_8:Int) (s:Nat→V),zl [(0,ji x_1),(2,nI),(3,oI 3 [] x_7),(4,ji x_8)] s→wM F x_1 k x_7 x_8=some r→Run D σ (R29 r) (.run NV [.lp NV,.bk 0,.sq zdG]) s:=by
 intro k
 induction k with
 | zero=>intro x_7 x_8 s _ h;exact nm h
 | succ k ih=>
   intro x_7 x_8 s hs h
   rw [wM] at h
   obtain ⟨h0,h2,h3,h4⟩:=hs
   refine .seq (.seq (rg (gm h0 fun h5=>gm h4 fun h6=>?_)))
   obtain ⟨q_14,E_q_14,h⟩:=bind_some h
   refine gv (ji q_14) (YE h5 h6 E_q_14) fun h7=>g1 7 (jb (q_14 != 0)) h7 fun h8=>gq (.nsq (zk (t:=(q_14 != 0)) h8 h (fun h=>?_) (fun h=>?_)))
   · refine .skip (.nsq (.seq (.block (.seq (rg (gm h0 fun h11=>gm h4 fun h12=>?_))))))
     obtain ⟨q_15,E_q_15,h⟩:=bind_some h
     refine gv (ji q_15) (YE h11 h12 E_q_15) fun h13=>g1 13 (ji (yf .i64 q_15 1)) h13 fun h14=>g1 14 (jb ((yf .i64 q_15 1) == 1)) h14 fun h15=>gq (.nsq (zk (t:=((yf .i64 q_15 1) == 1)) h15 h (fun h=>?_) (fun h=>?_)))
     · refine zq (zS ?_)
       refine ez [(0,_),(2,_),(3,_),(4,_),(18,_),(19,_)] ⟨za h0 rfl mi,za h2 rfl rfl,za h3 rfl (zj (r:=3) (p:=[]) rfl rfl),za h4 rfl mi,zc rfl,zc rfl⟩ ?_
       rintro s ⟨h0,h2,h3,h4,h18,h19⟩
       refine gv (oI 3 [] x_7) (wa h3 yI) fun h16=>gm h4 fun h17=>xT [(17,ji x_8)] [Enc.enc (x_8:Int)] h17 rfl rfl h18 ?_
       obtain ⟨ap_18,E_ap_18,h⟩:=bind_some h
       refine Xz (q:=3) (p:=[]) (o:=(x_7:NL Int)) (ys:=([x_8]:LI)) (t2:=.at 18 []) (lo2:=0) h16 rfl rfl h19 (ZJ (o:=(x_7:NL Int)) E_ap_18 (by split <;> simp)) (fun s_17 ha_17=>gm (rf (oI 19 [] (.of ap_18))) fun h3=>yQ (yC (r:=19) (x:=3) (v:=_) h3 rfl (fun s_18 hg_18=>?_)))
       refine ez [(0,ji x_1),(2,nI),(3,oI 3 [] (.of ap_18)),(4,ji x_8)] ⟨hg_18 0 _ _ (show s_17 0=(ji x_1) from zJ ha_17 h0 mi) mi,hg_18 2 _ nI (show s_17 2=nI from zJ ha_17 h2 rfl) rfl,hg_18 3 _ _ h3 (zj (r:=19) (p:=[]) rfl rfl),hg_18 4 _ _ (show s_17 4=(ji x_8) from zJ ha_17 h4 mi) mi⟩ ?_
       rintro s ⟨h0,h2,h3,h4⟩
       exact zbu H x_1 x_8 (wM F x_1 k) ih (.of ap_18) _ ⟨h0,h2,h3,h4⟩ h
     refine .skip ?_
     exact zbu H x_1 x_8 (wM F x_1 k) ih x_7 _ ⟨h0,h2,h3,h4⟩ h
   refine .exit (.esq (.elp (.ebk (.nsq (.seq (rg (gv (oI 3 [] x_7) (wa h3 yI) fun h20=>gv (oI 3 [] x_7) (wa h20 yI) fun h2=>yQ (yC (r:=3) (x:=2) (v:=_) h2 yI (fun s_19 hg_19=>?_)))))))))
   refine ez [(2,oI 2 [] x_7)] (hg_19 2 _ _ h2 (zj (r:=3) (p:=[]) rfl rfl)) ?_
   rintro s h2
   refine .nsq (.ret ?_)
   have hr:=Option.some.inj h
   subst hr
   exact rrA (zn h2) (vh (vA (o:=x_7)) (xB rfl))
def vG (F:Nat) (x_1:Int):Option LI:=
 wM F x_1 F .nil 0
theorem t29 (H:H29 D σ F) (x_1:Int) (s:Nat→V) (hs:zl [(0,ji x_1)] s) (h:vG F x_1=some r):Run D σ (R29 r) (.run A29 []) s:=by
 unfold vG at h
 have h0:=hs
 refine .seq (rg (g0 nI fun h2=>gq (.nsq (.seq (rg (g0 nI fun h3=>gq (.nsq (.seq (.seq (rg (g0 (ji 0) fun h4=>gq (.nsq (.block (.loop ?_))))))))))))))
 exact ziC H x_1 F .nil 0 _ ⟨h0,h2,h3,h4⟩ h
end
def e29 (F:Nat):Ent:=ent 29 (fun (x:(Int×Unit))=>vG F x.1) (fun (r:LI)=>(eL r)) 0 false []
abbrev C29 (D:List V→Option V) (F:Nat):Prop:=∀ (x0:Int) r,vG F x0=some r→D [Enc.enc x0]=some (eL r)
theorem p29 {F:Nat}:C29 (e29 F).den F:=fun x0 _ h=>zN (x0,()) h
theorem o29 {D:Den} {σ:Sig} {F:Nat} (hF:zy Try.prog D σ) (H:H29 D σ F):(e29 F).Ok Try.prog:=by
 refine yl (f:=29) (show unk 29=29 from rfl) (fun args r h=>?_) ⟨Try.f29,Try.func29,rfl,rfl⟩
 obtain ⟨⟨x0,_⟩,y,rfl,hy,rfl⟩:=zM h
 exact zm hF (by kernel_rfl) Try.func29 rfl c29 (show 1≤Try.f29.ntmps by decide) (t29 H x0 _ rfl hy)
def zoR:AC:=(.cond (.t 21) (.reg [] [jm 22 5,jm 23 7,jv 24 (.bin .or (.t 22) (.t 23)),jm 5 24] []) .skip)
def zpR:AC:=(.seq (.reg [] [jm 17 1,jm 18 6,jv 19 (.bin .shr (.t 17) (.t 18)),jv 20 (.bin .and (.t 19) (jn 1)),jv 21 (.bin .eql (.t 20) (jn 1))] []) zoR)
def zln:AC:=(.reg [] [jv 25 (.bin .add (.t 12) (jn 1)),jm 12 25] [])
def zoi:AC:=(.seq (.block 1 (.seq (.reg [] [jm 14 12,jv 15 (.idx (.t 10) (.t 12) 1),jv 16 (.load .s (.t 15)),jm 6 14,jm 7 16] []) zpR)) zln)
def zs4:AC:=(.seq (.cond (.t 13) .skip (.exit 0)) zoi)
def N9:AC:=(.seq (.reg [] [jv 13 (.bin .lss (.t 12) (.t 11))] []) zs4)
def zeP:AC:=(.seq (.reg [] [jm 26 5,jm 4 26] []) .ret)
def zlP:AC:=(.block 0 (.loop N9))
def zqz:AC:=(.seq (.seq (.reg [] [jv 9 (.fld (.t 2) 0 0),jv 10 (.load .p (.t 9)),jv 11 (.len (.t 10)),jv 12 (.mov (jn 0))] []) zlP) zeP)
def zsb:AC:=(.seq (.reg [] [jm 8 1,jm 5 8] []) zqz)
def A51:AC:=(.seq (.reg [.clr [2]] [jx 2 (.box (.t 0)),jv 4 (.mov (jn 0))] []) zsb)
def ztK:List An:=[⟨0,[.clr [2]],[],[],[]⟩]
theorem c51:cC Try.prog Try.f51.ntmps ztK (Try.f51.body.getD .skip)=some A51:=by kernel_rfl
structure H51 (D:Den) (σ:Sig) (F:Nat):Prop where
 mk ::
abbrev R51 (r:Int):(Nat→V)→Prop:=RR Try.prog [.tmp 4] 0 false (Enc.enc (r:Int))
section
variable {D:Den} {σ:Sig} {F:Nat} {r:Int}
def ul (F:Nat) (x_2:Int) (x_1:(S1 LI)) (x_7:Int) (c1:Int→Int→Option Int) (x_13:Int):Option Int:=
 c1 x_13 (w64 (x_7 + 1))
theorem zbZ (H:H51 D σ F) (x_2:Int) (x_1:(S1 LI)) (x_7:Int) (c1:Int→Int→Option Int) (Hc1:∀ (x_6:Int) (x_7:Int) (s:Nat→V),zl [(1,ji x_2),(4,ji 0),(5,ji x_6),(10,eL x_1.a),(11,ji (x_1.a.length:Int)),(12,ji x_7)] s→c1 x_6 x_7=some r→Run D σ (R51 r) (.run N9 [.lp N9,.bk 0,.sq zeP]) s) (x_13:Int) (s:Nat→V) (hs:zl [(1,ji x_2),(4,ji 0),(5,ji x_13),(10,eL x_1.a),(11,ji (x_1.a.length:Int)),(12,ji x_7)] s) (h:ul F x_2 x_1 x_7 c1 x_13=some r):Run D σ (R51 r) (.nrm [.bk 1,.sq zln,.lp N9,.bk 0,.sq zeP]) s:=by
 unfold ul at h
 obtain ⟨h1,h4,h5,h10,h11,h12⟩:=hs
 refine .nbk (.nsq (rg (g1 12 (ji (w64 (x_7 + 1))) h12 fun h25=>gm h25 fun h12=>gq (.nlp ?_))))
 exact Hc1 x_13 (w64 (x_7 + 1)) _ ⟨h1,h4,h5,h10,h11,h12⟩ h
def xD (F:Nat) (x_2:Int) (x_1:(S1 LI)) :Nat→Int→Int→Option Int
 | 0,_,_=>none
 | k + 1,x_6,x_7=>
   bif decide (x_7 < (x_1.a.length:Int)) then
    (idx x_1.a x_7).bind fun e_11=>
    (Wn .i64 x_2 x_7).bind fun q_12=>
    bif ((yf .i64 q_12 1) == 1) then
     ul F x_2 x_1 x_7 (xD F x_2 x_1 k) (ior .i64 x_6 e_11)
    else
     ul F x_2 x_1 x_7 (xD F x_2 x_1 k) x_6
   else
    some x_6
theorem zhF (H:H51 D σ F) (x_2:Int) (x_1:(S1 LI)) :∀ (k:Nat) (x_6:Int) (x_7:Int) (s:Nat→V),zl [(1,ji x_2),(4,ji 0),(5,ji x_6),(10,eL x_1.a),(11,ji (x_1.a.length:Int)),(12,ji x_7)] s→xD F x_2 x_1 k x_6 x_7=some r→Run D σ (R51 r) (.run N9 [.lp N9,.bk 0,.sq zeP]) s:=by
 intro k
 induction k with
 | zero=>intro x_6 x_7 s _ h;exact nm h
 | succ k ih=>
   intro x_6 x_7 s hs h
   rw [xD] at h
   obtain ⟨h1,h4,h5,h10,h11,h12⟩:=hs
   refine .seq (rg (g2 12 11 (jb (decide (x_7 < (x_1.a.length:Int)))) h12 h11 fun h13=>gq (.nsq (.seq (zk (t:=decide (x_7 < (x_1.a.length:Int))) h13 h (fun h=>?_) (fun h=>?_))))))
   · refine .skip (.nsq (.seq (.block (.seq (rg (gm h12 fun h14=>?_))))))
     obtain ⟨e_11,E_e_11,h⟩:=bind_some h
     refine gv (.ref .sh 0 [] (ji e_11)) (yz (t:=.sh) (lo:=0) (xs:=x_1.a) h10 h12 E_e_11 rfl rfl) fun h15=>g1 15 (ji e_11) h15 fun h16=>gm h14 fun h6=>gm h16 fun h7=>gq (.nsq (.seq (rg (gm h1 fun h17=>gm h6 fun h18=>?_))))
     obtain ⟨q_12,E_q_12,h⟩:=bind_some h
     refine gv (ji q_12) (YE h17 h18 E_q_12) fun h19=>g1 19 (ji (yf .i64 q_12 1)) h19 fun h20=>g1 20 (jb ((yf .i64 q_12 1) == 1)) h20 fun h21=>gq (.nsq (zk (t:=((yf .i64 q_12 1) == 1)) h21 h (fun h=>?_) (fun h=>?_)))
     · refine rg (gm h5 fun h22=>gm h7 fun h23=>g2 22 23 (ji (ior .i64 x_6 e_11)) h22 h23 fun h24=>gm h24 fun h5=>gq ?_)
       exact zbZ H x_2 x_1 x_7 (xD F x_2 x_1 k) ih (ior .i64 x_6 e_11) _ ⟨h1,h4,h5,h10,h11,h12⟩ h
     refine .skip ?_
     exact zbZ H x_2 x_1 x_7 (xD F x_2 x_1 k) ih x_6 _ ⟨h1,h4,h5,h10,h11,h12⟩ h
   refine .exit (.esq (.elp (.ebk (.nsq (.seq (rg (gm h5 fun h26=>gm h26 fun h4=>gq (.nsq (.ret ?_)))))))))
   have hr:=Option.some.inj h
   subst hr
   exact rrA (zn h4) rfl
def uh (F:Nat) (x_1:(S1 LI)) (x_2:Int):Option Int:=
 xD F x_2 x_1 F x_2 0
theorem t51 (H:H51 D σ F) (x_1:(S1 LI)) (x_2:Int) (s:Nat→V) (hs:zl [(0,.agg [eL x_1.a]),(1,ji x_2)] s) (h:uh F x_1 x_2=some r):Run D σ (R51 r) (.run A51 []) s:=by
 unfold uh at h
 obtain ⟨h0,h1⟩:=hs
 refine .seq (zq (zS ?_))
 refine ez [(0,_),(1,_),(2,_)] ⟨za h0 rfl (zA (zd me zh)),za h1 rfl mi,zc rfl⟩ ?_
 rintro s ⟨h0,h1,h2⟩
 refine xz (.agg [eL x_1.a]) (zw h0 rfl) h2 rfl (g0 (ji 0) fun h4=>gq (.nsq (.seq (rg (gm h1 fun h8=>gm h8 fun h5=>gq (.nsq (.seq (.seq (rg (g1 2 (.ref (.bx 2) 0 [0] (eL x_1.a)) (rf (.ref (.bx 2) 0 [] (.agg [eL x_1.a]))) fun h9=>g1 9 (eL x_1.a) h9 fun h10=>gv (ji (x_1.a.length:Int)) (yu (xs:=x_1.a) h10) fun h11=>g0 (ji 0) fun h12=>gq (.nsq (.block (.loop ?_)))))))))))))
 exact zhF H x_2 x_1 F x_2 0 _ ⟨h1,h4,h5,h10,h11,h12⟩ h
end
def e51 (F:Nat):Ent:=ent 51 (fun (x:((S1 LI)×Int×Unit))=>uh F x.1 x.2.1) (fun (r:Int)=>(Enc.enc (r:Int))) 0 false []
abbrev C51 (D:List V→Option V) (F:Nat):Prop:=∀ (x0:(S1 LI)) (x1:Int) r,uh F x0 x1=some r→D [Enc.enc x0,Enc.enc x1]=some (Enc.enc (r:Int))
theorem p51 {F:Nat}:C51 (e51 F).den F:=fun x0 x1 _ h=>zN (x0,x1,()) h
theorem o51 {D:Den} {σ:Sig} {F:Nat} (hF:zy Try.prog D σ) (H:H51 D σ F):(e51 F).Ok Try.prog:=by
 refine yl (f:=51) (show unk 51=51 from rfl) (fun args r h=>?_) ⟨Try.f51,Try.func51,rfl,rfl⟩
 obtain ⟨⟨x0,x1,_⟩,y,rfl,hy,rfl⟩:=zM h
 exact zm hF (by kernel_rfl) Try.func51 rfl c51 (show 2≤Try.f51.ntmps by decide) (t51 H x0 x1 _ ⟨rfl,rfl⟩ hy)
def zrA:AC:=(.seq (.reg [] [jm 32 0,jv 33 (.conv .i64 (.t 32)),jv 34 (.bin .and (.t 33) (jn 127)),jm 2 34] []) .ret)
def zs3:AC:=(.seq (.reg [] [jm 28 0,jm 29 0,jv 30 (.bin .shr (.t 29) (.k (.int .u64 (.ofNat 32)))),jv 31 (.bin .add (.t 28) (.t 30)),jm 0 31] []) zrA)
def zsG:AC:=(.seq (.reg [] [jm 24 0,jm 25 0,jv 26 (.bin .shr (.t 25) (.k (.int .u64 (.ofNat 16)))),jv 27 (.bin .add (.t 24) (.t 26)),jm 0 27] []) zs3)
def zn0:AC:=(.seq (.reg [] [jm 20 0,jm 21 0,jv 22 (.bin .shr (.t 21) (.k (.int .u64 (.ofNat 8)))),jv 23 (.bin .add (.t 20) (.t 22)),jm 0 23] []) zsG)
def zsB:AC:=(.seq (.reg [] [jm 15 0,jv 16 (.bin .shr (.t 15) (.k (.int .u64 (.ofNat 4)))),jm 17 0,jv 18 (.bin .add (.t 16) (.t 17)),jv 19 (.bin .and (.t 18) (.k (.int .u64 (.ofNat 1085102592571150095)))),jm 0 19] []) zn0)
def zsA:AC:=(.seq (.reg [] [jm 9 0,jv 10 (.bin .shr (.t 9) (.k (.int .u64 (.ofNat 2)))),jv 11 (.bin .and (.t 10) (.k (.int .u64 (.ofNat 3689348814741910323)))),jm 12 0,jv 13 (.bin .and (.t 12) (.k (.int .u64 (.ofNat 3689348814741910323)))),jv 14 (.bin .add (.t 11) (.t 13)),jm 0 14] []) zsB)
def zrj:AC:=(.seq (.reg [] [jm 3 0,jv 4 (.bin .shr (.t 3) (.k (.int .u64 (.ofNat 1)))),jv 5 (.bin .and (.t 4) (.k (.int .u64 (.ofNat 6148914691236517205)))),jm 6 0,jv 7 (.bin .and (.t 6) (.k (.int .u64 (.ofNat 6148914691236517205)))),jv 8 (.bin .add (.t 5) (.t 7)),jm 0 8] []) zsA)
def A59:AC:=(.seq (.reg [] [jv 2 (.mov (jn 0))] []) zrj)
def zt4:List An:=[]
theorem c59:cC Try.prog Try.f59.ntmps zt4 (Try.f59.body.getD .skip)=some A59:=by kernel_rfl
structure H59 (D:Den) (σ:Sig) (F:Nat):Prop where
 mk ::
abbrev R59 (r:Int):(Nat→V)→Prop:=RR Try.prog [.tmp 2] 0 false (Enc.enc (r:Int))
section
variable {D:Den} {σ:Sig} {F:Nat} {r:Int}
def vU (F:Nat) (x_1:(Kd .u64)):Option Int:=
 (Wn .u64 x_1.v 1).bind fun q_2=>
 (Wn .u64 (IntKind.u64.wrap ((yf .u64 q_2 6148914691236517205) + (yf .u64 x_1.v 6148914691236517205))) 2).bind fun q_3=>
 (Wn .u64 (IntKind.u64.wrap ((yf .u64 q_3 3689348814741910323) + (yf .u64 (IntKind.u64.wrap ((yf .u64 q_2 6148914691236517205) + (yf .u64 x_1.v 6148914691236517205))) 3689348814741910323))) 4).bind fun q_4=>
 (Wn .u64 (yf .u64 (IntKind.u64.wrap (q_4 + (IntKind.u64.wrap ((yf .u64 q_3 3689348814741910323) + (yf .u64 (IntKind.u64.wrap ((yf .u64 q_2 6148914691236517205) + (yf .u64 x_1.v 6148914691236517205))) 3689348814741910323))))) 1085102592571150095) 8).bind fun q_5=>
 (Wn .u64 (IntKind.u64.wrap ((yf .u64 (IntKind.u64.wrap (q_4 + (IntKind.u64.wrap ((yf .u64 q_3 3689348814741910323) + (yf .u64 (IntKind.u64.wrap ((yf .u64 q_2 6148914691236517205) + (yf .u64 x_1.v 6148914691236517205))) 3689348814741910323))))) 1085102592571150095) + q_5)) 16).bind fun q_6=>
 (Wn .u64 (IntKind.u64.wrap ((IntKind.u64.wrap ((yf .u64 (IntKind.u64.wrap (q_4 + (IntKind.u64.wrap ((yf .u64 q_3 3689348814741910323) + (yf .u64 (IntKind.u64.wrap ((yf .u64 q_2 6148914691236517205) + (yf .u64 x_1.v 6148914691236517205))) 3689348814741910323))))) 1085102592571150095) + q_5)) + q_6)) 32).bind fun q_7=>
 some (yf .i64 (w64 (IntKind.u64.wrap ((IntKind.u64.wrap ((IntKind.u64.wrap ((yf .u64 (IntKind.u64.wrap (q_4 + (IntKind.u64.wrap ((yf .u64 q_3 3689348814741910323) + (yf .u64 (IntKind.u64.wrap ((yf .u64 q_2 6148914691236517205) + (yf .u64 x_1.v 6148914691236517205))) 3689348814741910323))))) 1085102592571150095) + q_5)) + q_6)) + q_7))) 127)
theorem t59 (H:H59 D σ F) (x_1:(Kd .u64)) (s:Nat→V) (hs:zl [(0,.int .u64 x_1.v)] s) (h:vU F x_1=some r):Run D σ (R59 r) (.run A59 []) s:=by
 unfold vU at h
 have h0:=hs
 refine .seq (rg (g0 (ji 0) fun h2=>gq (.nsq (.seq (rg (gm h0 fun h3=>?_))))))
 obtain ⟨q_2,E_q_2,h⟩:=bind_some h
 refine gv (.int .u64 q_2) (YE h3 rfl E_q_2) fun h4=>g1 4 (.int .u64 (yf .u64 q_2 6148914691236517205)) h4 fun h5=>gm h0 fun h6=>g1 6 (.int .u64 (yf .u64 x_1.v 6148914691236517205)) h6 fun h7=>g2 5 7 (.int .u64 (IntKind.u64.wrap ((yf .u64 q_2 6148914691236517205) + (yf .u64 x_1.v 6148914691236517205)))) h5 h7 fun h8=>gm h8 fun h0=>gq (.nsq (.seq (rg (gm h0 fun h9=>?_))))
 obtain ⟨q_3,E_q_3,h⟩:=bind_some h
 refine gv (.int .u64 q_3) (YE h9 rfl E_q_3) fun h10=>g1 10 (.int .u64 (yf .u64 q_3 3689348814741910323)) h10 fun h11=>gm h0 fun h12=>g1 12 (.int .u64 (yf .u64 (IntKind.u64.wrap ((yf .u64 q_2 6148914691236517205) + (yf .u64 x_1.v 6148914691236517205))) 3689348814741910323)) h12 fun h13=>g2 11 13 (.int .u64 (IntKind.u64.wrap ((yf .u64 q_3 3689348814741910323) + (yf .u64 (IntKind.u64.wrap ((yf .u64 q_2 6148914691236517205) + (yf .u64 x_1.v 6148914691236517205))) 3689348814741910323)))) h11 h13 fun h14=>gm h14 fun h0=>gq (.nsq (.seq (rg (gm h0 fun h15=>?_))))
 obtain ⟨q_4,E_q_4,h⟩:=bind_some h
 refine gv (.int .u64 q_4) (YE h15 rfl E_q_4) fun h16=>gm h0 fun h17=>g2 16 17 (.int .u64 (IntKind.u64.wrap (q_4 + (IntKind.u64.wrap ((yf .u64 q_3 3689348814741910323) + (yf .u64 (IntKind.u64.wrap ((yf .u64 q_2 6148914691236517205) + (yf .u64 x_1.v 6148914691236517205))) 3689348814741910323)))))) h16 h17 fun h18=>g1 18 (.int .u64 (yf .u64 (IntKind.u64.wrap (q_4 + (IntKind.u64.wrap ((yf .u64 q_3 3689348814741910323) + (yf .u64 (IntKind.u64.wrap ((yf .u64 q_2 6148914691236517205) + (yf .u64 x_1.v 6148914691236517205))) 3689348814741910323))))) 1085102592571150095)) h18 fun h19=>gm h19 fun h0=>gq (.nsq (.seq (rg (gm h0 fun h20=>gm h0 fun h21=>?_))))
 obtain ⟨q_5,E_q_5,h⟩:=bind_some h
 refine gv (.int .u64 q_5) (YE h21 rfl E_q_5) fun h22=>g2 20 22 (.int .u64 (IntKind.u64.wrap ((yf .u64 (IntKind.u64.wrap (q_4 + (IntKind.u64.wrap ((yf .u64 q_3 3689348814741910323) + (yf .u64 (IntKind.u64.wrap ((yf .u64 q_2 6148914691236517205) + (yf .u64 x_1.v 6148914691236517205))) 3689348814741910323))))) 1085102592571150095) + q_5))) h20 h22 fun h23=>gm h23 fun h0=>gq (.nsq (.seq (rg (gm h0 fun h24=>gm h0 fun h25=>?_))))
 obtain ⟨q_6,E_q_6,h⟩:=bind_some h
 refine gv (.int .u64 q_6) (YE h25 rfl E_q_6) fun h26=>g2 24 26 (.int .u64 (IntKind.u64.wrap ((IntKind.u64.wrap ((yf .u64 (IntKind.u64.wrap (q_4 + (IntKind.u64.wrap ((yf .u64 q_3 3689348814741910323) + (yf .u64 (IntKind.u64.wrap ((yf .u64 q_2 6148914691236517205) + (yf .u64 x_1.v 6148914691236517205))) 3689348814741910323))))) 1085102592571150095) + q_5)) + q_6))) h24 h26 fun h27=>gm h27 fun h0=>gz [(0,_),(2,_)] ⟨h0,h2⟩ ?_
 rintro s ⟨h0,h2⟩
 refine .nsq (.seq (rg (gm h0 fun h28=>gm h0 fun h29=>?_)))
 obtain ⟨q_7,E_q_7,h⟩:=bind_some h
 refine gv (.int .u64 q_7) (YE h29 rfl E_q_7) fun h30=>g2 28 30 (.int .u64 (IntKind.u64.wrap ((IntKind.u64.wrap ((IntKind.u64.wrap ((yf .u64 (IntKind.u64.wrap (q_4 + (IntKind.u64.wrap ((yf .u64 q_3 3689348814741910323) + (yf .u64 (IntKind.u64.wrap ((yf .u64 q_2 6148914691236517205) + (yf .u64 x_1.v 6148914691236517205))) 3689348814741910323))))) 1085102592571150095) + q_5)) + q_6)) + q_7))) h28 h30 fun h31=>?_
 refine gm h31 fun h0=>gq (.nsq (.seq (rg (gm h0 fun h32=>g1 32 (ji (w64 (IntKind.u64.wrap ((IntKind.u64.wrap ((IntKind.u64.wrap ((yf .u64 (IntKind.u64.wrap (q_4 + (IntKind.u64.wrap ((yf .u64 q_3 3689348814741910323) + (yf .u64 (IntKind.u64.wrap ((yf .u64 q_2 6148914691236517205) + (yf .u64 x_1.v 6148914691236517205))) 3689348814741910323))))) 1085102592571150095) + q_5)) + q_6)) + q_7)))) h32 fun h33=>?_))))
 refine g1 33 (ji (yf .i64 (w64 (IntKind.u64.wrap ((IntKind.u64.wrap ((IntKind.u64.wrap ((yf .u64 (IntKind.u64.wrap (q_4 + (IntKind.u64.wrap ((yf .u64 q_3 3689348814741910323) + (yf .u64 (IntKind.u64.wrap ((yf .u64 q_2 6148914691236517205) + (yf .u64 x_1.v 6148914691236517205))) 3689348814741910323))))) 1085102592571150095) + q_5)) + q_6)) + q_7))) 127)) h33 fun h34=>gm h34 fun h2=>gq (.nsq (.ret ?_))
 have hr:=Option.some.inj h
 subst hr
 exact rrA (zn h2) rfl
end
def e59 (F:Nat):Ent:=ent 59 (fun (x:((Kd .u64)×Unit))=>vU F x.1) (fun (r:Int)=>(Enc.enc (r:Int))) 0 false []
abbrev C59 (D:List V→Option V) (F:Nat):Prop:=∀ (x0:(Kd .u64)) r,vU F x0=some r→D [Enc.enc x0]=some (Enc.enc (r:Int))
theorem p59 {F:Nat}:C59 (e59 F).den F:=fun x0 _ h=>zN (x0,()) h
theorem o59 {D:Den} {σ:Sig} {F:Nat} (hF:zy Try.prog D σ) (H:H59 D σ F):(e59 F).Ok Try.prog:=by
 refine yl (f:=59) (show unk 59=59 from rfl) (fun args r h=>?_) ⟨Try.f59,Try.func59,rfl,rfl⟩
 obtain ⟨⟨x0,_⟩,y,rfl,hy,rfl⟩:=zM h
 exact zm hF (by kernel_rfl) Try.func59 rfl c59 (show 1≤Try.f59.ntmps by decide) (t59 H x0 _ rfl hy)
def zr0:AC:=(.seq (.reg [] [jm 6 0,jx 7 (.call (jf 59) [.t 6]),jm 2 7] []) .ret)
def zp0:AC:=(.seq (.cond kf (.seq (.reg [] [jm 3 0,jv 4 (.conv .u32 (.t 3)),jx 5 (.call (jf 58) [.t 4]),jm 2 5] []) .ret) .skip) zr0)
def A35:AC:=(.seq (.reg [] [jv 2 (.mov (jn 0))] []) zp0)
def ztl:List An:=[]
theorem c35:cC Try.prog Try.f35.ntmps ztl (Try.f35.body.getD .skip)=some A35:=by kernel_rfl
structure H35 (D:Den) (σ:Sig) (F:Nat):Prop where
 c59:C59 (D 59) F
 g59:σ 59=some (0,false)
abbrev R35 (r:Int):(Nat→V)→Prop:=RR Try.prog [.tmp 2] 0 false (Enc.enc (r:Int))
section
variable {D:Den} {σ:Sig} {F:Nat} {r:Int}
def xS (F:Nat) (x_1:(Kd .u64)):Option Int:=
 (vU F (Kd.mk x_1.v:Kd .u64)).bind fun r_2=>
 some r_2
theorem t35 (H:H35 D σ F) (x_1:(Kd .u64)) (s:Nat→V) (hs:zl [(0,.int .u64 x_1.v)] s) (h:xS F x_1=some r):Run D σ (R35 r) (.run A35 []) s:=by
 unfold xS at h
 have h0:=hs
 refine .seq (rg (g0 (ji 0) fun h2=>gq (.nsq (.seq (zfL rfl (.skip (.nsq (.seq (rg (gm h0 fun h6=>?_))))))))))
 obtain ⟨r_2,E_r_2,h⟩:=bind_some h
 refine zF (m:=0) (al:=false) (r:=Enc.enc (r_2:Int)) [Enc.enc ((Kd.mk x_1.v:Kd .u64):(Kd .u64))] (ze (v:=.int .u64 x_1.v) h6 rfl rfl zx) (H.c59 _ _ E_r_2) H.g59 rfl rfl rfl rfl (gm (rf (ji r_2)) fun h2=>gq (.nsq (.ret ?_)))
 have hr:=Option.some.inj h
 subst hr
 exact rrA (zn h2) rfl
end
def e35 (F:Nat):Ent:=ent 35 (fun (x:((Kd .u64)×Unit))=>xS F x.1) (fun (r:Int)=>(Enc.enc (r:Int))) 0 false []
abbrev C35 (D:List V→Option V) (F:Nat):Prop:=∀ (x0:(Kd .u64)) r,xS F x0=some r→D [Enc.enc x0]=some (Enc.enc (r:Int))
theorem p35 {F:Nat}:C35 (e35 F).den F:=fun x0 _ h=>zN (x0,()) h
theorem o35 {D:Den} {σ:Sig} {F:Nat} (hF:zy Try.prog D σ) (H:H35 D σ F):(e35 F).Ok Try.prog:=by
 refine yl (f:=35) (show unk 35=35 from rfl) (fun args r h=>?_) ⟨Try.f35,Try.func35,rfl,rfl⟩
 obtain ⟨⟨x0,_⟩,y,rfl,hy,rfl⟩:=zM h
 exact zm hF (by kernel_rfl) Try.func35 rfl c35 (show 1≤Try.f35.ntmps by decide) (t35 H x0 _ rfl hy)
def zrB:AC:=(.cond (.t 21) (.exit 0) .skip)
def zrJ:AC:=(.reg [] [jm 22 8,jm 7 22] [])
def zpg:AC:=(.seq (.seq (.reg [] [jm 19 8,jm 20 7,jv 21 (.bin .eql (.t 19) (.t 20))] []) zrB) zrJ)
def zgN:AC:=(.block 1 (.seq (.reg [] [jv 11 (.load (.ag [.p]) (.t 3)),jm 12 7,jm 13 1,jm 14 2,jv 15 (.bin .shl (jn 1) (.t 14)),jv 16 (.bin .or (.t 13) (.t 15)),jv 17 (.bin .and (.t 12) (.t 16)),jx 18 (.call (jf 51) [.t 11,.t 17]),jm 8 18] []) zpg))
def zkR:AC:=(.seq (.reg [] [jm 23 7,jm 24 1,jv 25 (.bin .andNot (.t 23) (.t 24)),jm 26 2,jv 27 (.bin .shl (jn 1) (.t 26)),jv 28 (.bin .andNot (.t 25) (.t 27)),jv 29 (.conv .u64 (.t 28)),jx 30 (.call (jf 35) [.t 29]),jm 6 30] []) .ret)
def zqX:AC:=(.seq (.block 0 (.loop zgN)) zkR)
def zoX:AC:=(.seq (.reg [] [jm 9 2,jv 10 (.bin .shl (jn 1) (.t 9)),jm 7 10] []) zqX)
def A26:AC:=(.seq (.reg [.clr [3]] [jx 3 (.box (.t 0)),jv 6 (.mov (jn 0))] []) zoX)
def zuy:List An:=[⟨0,[.clr [3]],[],[],[]⟩]
theorem c26:cC Try.prog Try.f26.ntmps zuy (Try.f26.body.getD .skip)=some A26:=by kernel_rfl
structure H26 (D:Den) (σ:Sig) (F:Nat):Prop where
 c51:C51 (D 51) F
 g51:σ 51=some (0,false)
 c35:C35 (D 35) F
 g35:σ 35=some (0,false)
abbrev R26 (r:Int):(Nat→V)→Prop:=RR Try.prog [.tmp 6] 0 false (Enc.enc (r:Int))
section
variable {D:Den} {σ:Sig} {F:Nat} {r:Int}
def xJ (F:Nat) (x_2:Int) (x_3:Int) (x_1:(S1 LI)) :Nat→Int→Option Int
 | 0,_=>none
 | k + 1,x_7=>
   (vR .i64 1 x_3).bind fun q_10=>
   (uh F x_1 (yf .i64 x_7 (ior .i64 x_2 q_10))).bind fun r_11=>
   bif (r_11 == x_7) then
    (vR .i64 1 x_3).bind fun q_12=>
    (xS F (Kd.mk (IntKind.u64.wrap (zK .i64 (zK .i64 x_7 x_2) q_12)):Kd .u64)).bind fun r_13=>
    some r_13
   else
    (xJ F x_2 x_3 x_1 k) r_11
theorem zhu (H:H26 D σ F) (x_2:Int) (x_3:Int) (x_1:(S1 LI)) :∀ (k:Nat) (x_7:Int) (s:Nat→V),zl [(1,ji x_2),(2,ji x_3),(3,.ref (.bx 3) 0 [] (.agg [eL x_1.a])),(6,ji 0),(7,ji x_7)] s→xJ F x_2 x_3 x_1 k x_7=some r→Run D σ (R26 r) (.run zgN [.lp zgN,.bk 0,.sq zkR]) s:=by
 intro k
 induction k with
 | zero=>intro x_7 s _ h;exact nm h
 | succ k ih=>
   intro x_7 s hs h
   rw [xJ] at h
   obtain ⟨h1,h2,h3,h6,h7⟩:=hs
   refine .block (.seq (rg (g1 3 (.agg [eL x_1.a]) h3 fun h11=>gm h7 fun h12=>gm h1 fun h13=>gm h2 fun h14=>?_)))
   obtain ⟨q_10,E_q_10,h⟩:=bind_some h
   refine gv (ji q_10) (wP rfl h14 E_q_10) fun h15=>g2 13 15 (ji (ior .i64 x_2 q_10)) h13 h15 fun h16=>g2 12 16 (ji (yf .i64 x_7 (ior .i64 x_2 q_10))) h12 h16 fun h17=>?_
   obtain ⟨r_11,E_r_11,h⟩:=bind_some h
   refine zF (m:=0) (al:=false) (r:=Enc.enc (r_11:Int)) [Enc.enc (x_1:(S1 LI)),Enc.enc (yf .i64 x_7 (ior .i64 x_2 q_10):Int)] (ze (v:=.agg [eL x_1.a]) h11 rfl (Enc.erase_enc (x_1:(S1 LI))) (ze (v:=ji (yf .i64 x_7 (ior .i64 x_2 q_10))) h17 rfl rfl zx)) (H.c51 _ _ _ E_r_11) H.g51 rfl rfl rfl rfl (gm (rf (ji r_11)) fun h8=>gq (.nsq (.seq (.seq (rg (gm h8 fun h19=>gm h7 fun h20=>g2 19 20 (jb (r_11 == x_7)) h19 h20 fun h21=>gq (.nsq (zk (t:=(r_11 == x_7)) h21 h (fun h=>?_) (fun h=>?_)))))))))
   · refine .exit (.esq (.ebn (by decide) (.elp (.ebk (.nsq (.seq (rg (gm h7 fun h23=>gm h1 fun h24=>g2 23 24 (ji (zK .i64 x_7 x_2)) h23 h24 fun h25=>gm h2 fun h26=>?_))))))))
     obtain ⟨q_12,E_q_12,h⟩:=bind_some h
     refine gv (ji q_12) (wP rfl h26 E_q_12) fun h27=>g2 25 27 (ji (zK .i64 (zK .i64 x_7 x_2) q_12)) h25 h27 fun h28=>g1 28 (.int .u64 (IntKind.u64.wrap (zK .i64 (zK .i64 x_7 x_2) q_12))) h28 fun h29=>?_
     obtain ⟨r_13,E_r_13,h⟩:=bind_some h
     refine zF (m:=0) (al:=false) (r:=Enc.enc (r_13:Int)) [Enc.enc ((Kd.mk (IntKind.u64.wrap (zK .i64 (zK .i64 x_7 x_2) q_12)):Kd .u64):(Kd .u64))] (ze (v:=.int .u64 (IntKind.u64.wrap (zK .i64 (zK .i64 x_7 x_2) q_12))) h29 rfl rfl zx) (H.c35 _ _ E_r_13) H.g35 rfl rfl rfl rfl (gm (rf (ji r_13)) fun h6=>gq (.nsq (.ret ?_)))
     have hr:=Option.some.inj h
     subst hr
     exact rrA (zn h6) rfl
   refine .skip (.nsq (rg (gm h8 fun h22=>gm h22 fun h7=>gq (.nbk (.nlp ?_)))))
   exact ih r_11 _ ⟨h1,h2,h3,h6,h7⟩ h
def xl (F:Nat) (x_1:(S1 LI)) (x_2:Int) (x_3:Int):Option Int:=
 (vR .i64 1 x_3).bind fun q_4=>
 xJ F x_2 x_3 x_1 F q_4
theorem t26 (H:H26 D σ F) (x_1:(S1 LI)) (x_2:Int) (x_3:Int) (s:Nat→V) (hs:zl [(0,.agg [eL x_1.a]),(1,ji x_2),(2,ji x_3)] s) (h:xl F x_1 x_2 x_3=some r):Run D σ (R26 r) (.run A26 []) s:=by
 unfold xl at h
 obtain ⟨h0,h1,h2⟩:=hs
 refine .seq (zq (zS ?_))
 refine ez [(0,_),(1,_),(2,_),(3,_)] ⟨za h0 rfl (zA (zd me zh)),za h1 rfl mi,za h2 rfl mi,zc rfl⟩ ?_
 rintro s ⟨h0,h1,h2,h3⟩
 refine xz (.agg [eL x_1.a]) (zw h0 rfl) h3 rfl (g0 (ji 0) fun h6=>gq (.nsq (.seq (rg (gm h2 fun h9=>?_)))))
 obtain ⟨q_4,E_q_4,h⟩:=bind_some h
 refine gv (ji q_4) (wP rfl h9 E_q_4) fun h10=>gm h10 fun h7=>gq (.nsq (.seq (.block (.loop ?_))))
 exact zhu H x_2 x_3 x_1 F q_4 _ ⟨h1,h2,rfl,h6,h7⟩ h
end
def e26 (F:Nat):Ent:=ent 26 (fun (x:((S1 LI)×Int×Int×Unit))=>xl F x.1 x.2.1 x.2.2.1) (fun (r:Int)=>(Enc.enc (r:Int))) 0 false []
abbrev C26 (D:List V→Option V) (F:Nat):Prop:=∀ (x0:(S1 LI)) (x1:Int) (x2:Int) r,xl F x0 x1 x2=some r→D [Enc.enc x0,Enc.enc x1,Enc.enc x2]=some (Enc.enc (r:Int))
theorem p26 {F:Nat}:C26 (e26 F).den F:=fun x0 x1 x2 _ h=>zN (x0,x1,x2,()) h
theorem o26 {D:Den} {σ:Sig} {F:Nat} (hF:zy Try.prog D σ) (H:H26 D σ F):(e26 F).Ok Try.prog:=by
 refine yl (f:=26) (show unk 26=26 from rfl) (fun args r h=>?_) ⟨Try.f26,Try.func26,rfl,rfl⟩
 obtain ⟨⟨x0,x1,x2,_⟩,y,rfl,hy,rfl⟩:=zM h
 exact zm hF (by kernel_rfl) Try.func26 rfl c26 (show 3≤Try.f26.ntmps by decide) (t26 H x0 x1 x2 _ ⟨rfl,rfl,rfl⟩ hy)
def zjE:AC:=(.cond (.t 19) .skip (.exit 0))
def zbq:AC:=(.cond (.t 58) (.reg [] [jm 59 7,jm 60 8,jm 61 11,jv 62 (.idx (.t 59) (.t 60) 1),jz (.store .s (.t 62) (.t 61))] []) .skip)
def zgn:AC:=(.seq (.reg [] [jm 49 9,jv 50 (.bin .eql (.t 49) (jn 0)),jm 51 50,jg 52 51 false (.mov (.t 11)),jg 53 51 false (.mov (.t 7)),jg 54 51 false (.mov (.t 8)),jg 55 51 false (.idx (.t 53) (.t 54) 1),jg 56 51 false (.load .s (.t 55)),jg 57 51 false (.bin .lss (.t 52) (.t 56)),jv 58 (.pick (.t 51) kt (.t 57))] []) zbq)
def zkH:AC:=(.seq (.reg [] [jm 37 2,jm 38 8,jm 39 10,jx 40 (.call (.t 37) [.t 38,.t 39]),jm 41 7,jm 42 8,jm 43 10,jv 44 (.bin .shl (jn 1) (.t 43)),jv 45 (.bin .or (.t 42) (.t 44)),jv 46 (.idx (.t 41) (.t 45) 1),jv 47 (.load .s (.t 46)),jv 48 (.mx [.t 40,.t 47]),jm 11 48] []) zgn)
def MD:AC:=(.reg [] [jv 63 (.bin .add (.t 32) (jn 1)),jm 32 63] [])
def zjA:AC:=(.seq (.block 3 (.seq (.reg [] [jm 34 32,jv 35 (.idx (.t 30) (.t 32) 1),jv 36 (.load .s (.t 35)),jm 9 34,jm 10 36] []) zkH)) MD)
def zjt:AC:=(.seq (.cond (.t 33) .skip (.exit 2)) zjA)
def Xa:AC:=(.seq (.reg [] [jv 33 (.bin .lss (.t 32) (.t 31))] []) zjt)
def zkk:AC:=(.block 2 (.loop Xa))
def zkG:AC:=(.seq (.reg [] [jv 26 (.load (.ag [.p]) (.t 3)),jx 27 (.call (jf 28) [.t 26]),jm 28 8,jv 29 (.bin .andNot (.t 27) (.t 28)),jx 30 (.call (jf 29) [.t 29]),jv 31 (.len (.t 30)),jv 32 (.mov (jn 0))] []) zkk)
def Wz:AC:=(.reg [] [jm 20 8,jv 21 (.bin .sub (.t 20) (jn 1)),jm 8 21] [])
def zj3:AC:=(.seq (.block 1 (.seq (.reg [] [jm 22 7,jm 23 8,jm 24 1,jv 25 (.idx (.t 22) (.t 23) 1),jz (.store .s (.t 25) (.t 24))] []) zkG)) Wz)
def ux:AC:=(.seq (.seq (.reg [] [jm 18 8,jv 19 (.bin .geq (.t 18) (jn 0))] []) zjE) zj3)
def Zv:AC:=(.seq (.reg [] [jm 64 7,jm 6 64] [.home 7 6]) .ret)
def ziB:AC:=(.block 0 (.loop ux))
def zid:AC:=(.seq (.seq (.reg [] [jv 16 (.load (.ag [.p]) (.t 3)),jx 17 (.call (jf 28) [.t 16]),jm 8 17] []) ziB) Zv)
def zia:AC:=(.seq (.reg [.clr [15]] [jv 12 (.load (.ag [.p]) (.t 3)),jx 13 (.call (jf 28) [.t 12]),jv 14 (.bin .add (.t 13) (jn 1)),jx 15 (.mk (.t 14) i0 i0),jm 7 15] [.home 15 7]) zid)
def zkZ:AC:=(.seq (.reg [.clr [3]] [jx 3 (.box (.t 0)),jv 6 (.mov (.k (.sl .nl .s 0 [])))] []) zia)
def zmx:List An:=[⟨0,[.clr [3]],[],[],[]⟩,⟨1,[.clr [15]],[],[],[.home 15 7]⟩,⟨13,[],[],[],[.home 7 6]⟩]
theorem c50s1:cC Try.prog Try.f50.ntmps zmx (Try.f50.body.getD .skip)=some zkZ:=by kernel_rfl
structure M1 (D:Den) (σ:Sig) (F:Nat):Prop where
 c28:C28 (D 28) F
 g28:σ 28=some (0,false)
 c29:C29 (D 29) F
 g29:σ 29=some (0,false)
 c26:C26 (D 26) F
 g26:σ 26=some (0,false)
abbrev Jd (r:LI):(Nat→V)→Prop:=RR Try.prog [.tmp 6] 0 false (eL r)
section
variable {D:Den} {σ:Sig} {F:Nat} {r:LI}
def yy (F:Nat) (x_2:Int) (x_3:(Cl 26 ((S1 LI)×Unit) Unit)) (x_1:(S1 LI)) (x_43:Int) (r_81:LI) (x_93:Int) (c1:LI→Int→Option LI) (c4:LI→Int→Option LI) (x_111:LI):Option LI:=
 c4 x_111 (w64 (x_93 + 1))
theorem Mm (H:M1 D σ F) (x_2:Int) (x_3:(Cl 26 ((S1 LI)×Unit) Unit)) (x_1:(S1 LI)) (x_43:Int) (r_81:LI) (x_93:Int) (c1:LI→Int→Option LI) (Hc1:∀ (x_42:LI) (x_43:Int) (s:Nat→V),zl [(1,ji x_2),(2,.fn 26 [.agg [eL x_3.fs.1.a]] []),(3,.ref (.bx 3) 0 [] (.agg [eL x_1.a])),(6,nI),(7,oI 7 [] (.of x_42)),(8,ji x_43)] s→c1 x_42 x_43=some r→Run D σ (Jd r) (.run ux [.lp ux,.bk 0,.sq Zv]) s) (c4:LI→Int→Option LI) (Hc4:∀ (x_92:LI) (x_93:Int) (s:Nat→V),zl [(1,ji x_2),(2,.fn 26 [.agg [eL x_3.fs.1.a]] []),(3,.ref (.bx 3) 0 [] (.agg [eL x_1.a])),(6,nI),(7,oI 7 [] (.of x_92)),(8,ji x_43),(30,eL r_81),(31,ji (r_81.length:Int)),(32,ji x_93)] s→c4 x_92 x_93=some r→Run D σ (Jd r) (.run Xa [.lp Xa,.bk 2,.bk 1,.sq Wz,.lp ux,.bk 0,.sq Zv]) s) (x_111:LI) (s:Nat→V) (hs:zl [(1,ji x_2),(2,.fn 26 [.agg [eL x_3.fs.1.a]] []),(3,.ref (.bx 3) 0 [] (.agg [eL x_1.a])),(6,nI),(7,oI 7 [] (.of x_111)),(8,ji x_43),(30,eL r_81),(31,ji (r_81.length:Int)),(32,ji x_93)] s) (h:yy F x_2 x_3 x_1 x_43 r_81 x_93 c1 c4 x_111=some r):Run D σ (Jd r) (.nrm [.bk 3,.sq MD,.lp Xa,.bk 2,.bk 1,.sq Wz,.lp ux,.bk 0,.sq Zv]) s:=by
 unfold yy at h
 obtain ⟨h1,h2,h3,h6,h7,h8,h30,h31,h32⟩:=hs
 refine .nbk (.nsq (rg (g1 32 (ji (w64 (x_93 + 1))) h32 fun h63=>gm h63 fun h32=>gq (.nlp ?_))))
 exact Hc4 x_111 (w64 (x_93 + 1)) _ ⟨h1,h2,h3,h6,h7,h8,h30,h31,h32⟩ h
def yx (F:Nat) (x_2:Int) (x_3:(Cl 26 ((S1 LI)×Unit) Unit)) (x_1:(S1 LI)) (x_92:LI) (x_43:Int) (e_107:Int) (r_105:Int) (r_81:LI) (x_93:Int) (c1:LI→Int→Option LI) (c4:LI→Int→Option LI) (x_109:Bool):Option LI:=
 bif x_109 then
  (idx x_92 x_43).bind fun e_112=>
  yy F x_2 x_3 x_1 x_43 r_81 x_93 c1 c4 (x_92.set x_43.toNat (if e_107 > r_105 then e_107 else r_105))
 else
  yy F x_2 x_3 x_1 x_43 r_81 x_93 c1 c4 x_92
theorem LK (H:M1 D σ F) (x_2:Int) (x_3:(Cl 26 ((S1 LI)×Unit) Unit)) (x_1:(S1 LI)) (x_92:LI) (x_43:Int) (e_107:Int) (r_105:Int) (r_81:LI) (x_93:Int) (c1:LI→Int→Option LI) (Hc1:∀ (x_42:LI) (x_43:Int) (s:Nat→V),zl [(1,ji x_2),(2,.fn 26 [.agg [eL x_3.fs.1.a]] []),(3,.ref (.bx 3) 0 [] (.agg [eL x_1.a])),(6,nI),(7,oI 7 [] (.of x_42)),(8,ji x_43)] s→c1 x_42 x_43=some r→Run D σ (Jd r) (.run ux [.lp ux,.bk 0,.sq Zv]) s) (c4:LI→Int→Option LI) (Hc4:∀ (x_92:LI) (x_93:Int) (s:Nat→V),zl [(1,ji x_2),(2,.fn 26 [.agg [eL x_3.fs.1.a]] []),(3,.ref (.bx 3) 0 [] (.agg [eL x_1.a])),(6,nI),(7,oI 7 [] (.of x_92)),(8,ji x_43),(30,eL r_81),(31,ji (r_81.length:Int)),(32,ji x_93)] s→c4 x_92 x_93=some r→Run D σ (Jd r) (.run Xa [.lp Xa,.bk 2,.bk 1,.sq Wz,.lp ux,.bk 0,.sq Zv]) s) (x_109:Bool) (s:Nat→V) (hs:zl [(1,ji x_2),(2,.fn 26 [.agg [eL x_3.fs.1.a]] []),(3,.ref (.bx 3) 0 [] (.agg [eL x_1.a])),(6,nI),(7,oI 7 [] (.of x_92)),(8,ji x_43),(11,ji (if e_107 > r_105 then e_107 else r_105)),(30,eL r_81),(31,ji (r_81.length:Int)),(32,ji x_93),(58,jb x_109)] s) (h:yx F x_2 x_3 x_1 x_92 x_43 e_107 r_105 r_81 x_93 c1 c4 x_109=some r):Run D σ (Jd r) (.nrm [.sq zbq,.bk 3,.sq MD,.lp Xa,.bk 2,.bk 1,.sq Wz,.lp ux,.bk 0,.sq Zv]) s:=by
 unfold yx at h
 obtain ⟨h1,h2,h3,h6,h7,h8,h11,h30,h31,h32,h58⟩:=hs
 refine .nsq (zk (t:=x_109) h58 h (fun h=>?_) (fun h=>?_))
 · refine rg (gm h7 fun h59=>gm h8 fun h60=>gm h11 fun h61=>?_)
   obtain ⟨e_112,E_e_112,h⟩:=bind_some h
   refine gv (.ref (.at 7 []) x_43.toNat [] (ji e_112)) (wE (o:=.of x_92) h59 h60 E_e_112 rfl) fun h62=>yb (ji (if e_107 > r_105 then e_107 else r_105)) (zw h62 rfl) (zw h61 rfl) (wj (by first | rfl | simp [V.toks,V.tokss,Enc.toks_enc,ya])) ?_
   refine gz [(1,ji x_2),(2,.fn 26 [.agg [eL x_3.fs.1.a]] []),(3,.ref (.bx 3) 0 [] (.agg [eL x_1.a])),(6,nI),(7,_),(8,ji x_43),(30,eL r_81),(31,ji (r_81.length:Int)),(32,ji x_93)] ⟨zb h1 rfl,zb h2 (zaC (zp (yr (zp uE rfl)) rfl) rfl),zb h3 (zC rfl rfl (yr (zp uE rfl))),zb h6 rfl,zb h7 X0,zb h8 rfl,zb h30 uE,zb h31 rfl,zb h32 rfl⟩ ?_
   rintro s ⟨h1,h2,h3,h6,h7,h8,h30,h31,h32⟩
   exact Mm H x_2 x_3 x_1 x_43 r_81 x_93 c1 Hc1 c4 Hc4 (x_92.set x_43.toNat (if e_107 > r_105 then e_107 else r_105)) _ ⟨h1,h2,h3,h6,h7,h8,h30,h31,h32⟩ h
 refine .skip ?_
 exact Mm H x_2 x_3 x_1 x_43 r_81 x_93 c1 Hc1 c4 Hc4 x_92 _ ⟨h1,h2,h3,h6,h7,h8,h30,h31,h32⟩ h
def zG (F:Nat) (x_2:Int) (x_3:(Cl 26 ((S1 LI)×Unit) Unit)) (x_1:(S1 LI)) (x_43:Int) (r_81:LI) (c1:LI→Int→Option LI):Nat→LI→Int→Option LI
 | 0,_,_=>none
 | k + 1,x_92,x_93=>
   bif decide (x_93 < (r_81.length:Int)) then
    (idx r_81 x_93).bind fun e_104=>
    (xl F x_3.fs.1 x_43 e_104).bind fun r_105=>
    (vR .i64 1 e_104).bind fun q_106=>
    (idx x_92 (ior .i64 x_43 q_106)).bind fun e_107=>
    bif (x_93 == 0) then
     yx F x_2 x_3 x_1 x_92 x_43 e_107 r_105 r_81 x_93 c1 (zG F x_2 x_3 x_1 x_43 r_81 c1 k) true
    else
     (idx x_92 x_43).bind fun e_113=>
     yx F x_2 x_3 x_1 x_92 x_43 e_107 r_105 r_81 x_93 c1 (zG F x_2 x_3 x_1 x_43 r_81 c1 k) (decide ((if e_107 > r_105 then e_107 else r_105) < e_113))
   else
    c1 x_92 (w64 (x_43 - 1))
theorem zcM (H:M1 D σ F) (x_2:Int) (x_3:(Cl 26 ((S1 LI)×Unit) Unit)) (x_1:(S1 LI)) (x_43:Int) (r_81:LI) (c1:LI→Int→Option LI) (Hc1:∀ (x_42:LI) (x_43:Int) (s:Nat→V),zl [(1,ji x_2),(2,.fn 26 [.agg [eL x_3.fs.1.a]] []),(3,.ref (.bx 3) 0 [] (.agg [eL x_1.a])),(6,nI),(7,oI 7 [] (.of x_42)),(8,ji x_43)] s→c1 x_42 x_43=some r→Run D σ (Jd r) (.run ux [.lp ux,.bk 0,.sq Zv]) s):∀ (k:Nat) (x_92:LI) (x_93:Int) (s:Nat→V),zl [(1,ji x_2),(2,.fn 26 [.agg [eL x_3.fs.1.a]] []),(3,.ref (.bx 3) 0 [] (.agg [eL x_1.a])),(6,nI),(7,oI 7 [] (.of x_92)),(8,ji x_43),(30,eL r_81),(31,ji (r_81.length:Int)),(32,ji x_93)] s→zG F x_2 x_3 x_1 x_43 r_81 c1 k x_92 x_93=some r→Run D σ (Jd r) (.run Xa [.lp Xa,.bk 2,.bk 1,.sq Wz,.lp ux,.bk 0,.sq Zv]) s:=by
 intro k
 induction k with
 | zero=>intro x_92 x_93 s _ h;exact nm h
 | succ k ih=>
   intro x_92 x_93 s hs h
   rw [zG] at h
   obtain ⟨h1,h2,h3,h6,h7,h8,h30,h31,h32⟩:=hs
   refine .seq (rg (g2 32 31 (jb (decide (x_93 < (r_81.length:Int)))) h32 h31 fun h33=>gq (.nsq (.seq (zk (t:=decide (x_93 < (r_81.length:Int))) h33 h (fun h=>?_) (fun h=>?_))))))
   · refine .skip (.nsq (.seq (.block (.seq (rg (gm h32 fun h34=>?_))))))
     obtain ⟨e_104,E_e_104,h⟩:=bind_some h
     refine gv (.ref .sh 0 [] (ji e_104)) (yz (t:=.sh) (lo:=0) (xs:=r_81) h30 h32 E_e_104 rfl rfl) fun h35=>g1 35 (ji e_104) h35 fun h36=>gm h34 fun h9=>gm h36 fun h10=>gq (.nsq (.seq (rg (gm h2 fun h37=>gm h8 fun h38=>gm h10 fun h39=>?_))))
     obtain ⟨r_105,E_r_105,h⟩:=bind_some h
     refine LH (m:=0) (al:=false) (r:=Enc.enc (r_105:Int)) (fs:=[.agg [eL x_3.fs.1.a]]) (env:=[]) (us:=[Enc.enc (x_3.fs.1:(S1 LI))]) (ws:=[]) h37 (xN (Enc.erase_enc (x_3.fs.1:(S1 LI))) xf) xf rfl [Enc.enc (x_43:Int),Enc.enc (e_104:Int)] (ze (v:=ji x_43) h38 rfl rfl (ze (v:=ji e_104) h39 rfl rfl zx)) (H.c26 _ _ _ _ E_r_105) H.g26 rfl rfl rfl rfl (gm h7 fun h41=>gm h8 fun h42=>gm h10 fun h43=>?_)
     obtain ⟨q_106,E_q_106,h⟩:=bind_some h
     refine gv (ji q_106) (wP rfl h43 E_q_106) fun h44=>g2 42 44 (ji (ior .i64 x_43 q_106)) h42 h44 fun h45=>?_
     obtain ⟨e_107,E_e_107,h⟩:=bind_some h
     refine gv (.ref (.at 7 []) ((ior .i64 x_43 q_106).toNat) [] (ji e_107)) (wE (o:=.of x_92) h41 h45 E_e_107 rfl) fun h46=>g1 46 (ji e_107) h46 fun h47=>g2 40 47 (ji (if e_107 > r_105 then e_107 else r_105)) (rf (ji r_105)) h47 fun h48=>gm h48 fun h11=>gq (.nsq (.seq (rg (gm h9 fun h49=>g1 49 (jb (x_93 == 0)) h49 fun h50=>gm h50 fun h51=>zW (c:=(x_93 == 0)) h (fun hg3 h=>?_) (fun hg3 h=>?_)))))
     · iterate 6 refine z9 (ct h51 hg3) ?_
       refine g2 51 57 (jb true) (ct h51 hg3) (rf (.tup [])) fun h58=>gz [(1,_),(2,_),(3,_),(6,_),(7,_),(8,_),(11,_),(30,_),(31,_),(32,_),(58,_)] ⟨h1,h2,h3,h6,h7,h8,h11,h30,h31,h32,h58⟩ ?_
       rintro s ⟨h1,h2,h3,h6,h7,h8,h11,h30,h31,h32,h58⟩
       exact LK H x_2 x_3 x_1 x_92 x_43 e_107 r_105 r_81 x_93 c1 Hc1 (zG F x_2 x_3 x_1 x_43 r_81 c1 k) ih true _ ⟨h1,h2,h3,h6,h7,h8,h11,h30,h31,h32,h58⟩ h
     refine zg (ct h51 hg3) (gm h11 fun h52=>zg (ct h51 hg3) (gm h7 fun h53=>zg (ct h51 hg3) (gm h8 fun h54=>?_)))
     obtain ⟨e_113,E_e_113,h⟩:=bind_some h
     refine zg (ct h51 hg3) (gv (.ref (.at 7 []) x_43.toNat [] (ji e_113)) (wE (o:=.of x_92) h53 h54 E_e_113 rfl) fun h55=>zg (ct h51 hg3) (g1 55 (ji e_113) h55 fun h56=>zg (ct h51 hg3) (g2 52 56 (jb (decide ((if e_107 > r_105 then e_107 else r_105) < e_113))) h52 h56 fun h57=>g2 51 57 (jb (decide ((if e_107 > r_105 then e_107 else r_105) < e_113))) (ct h51 hg3) h57 fun h58=>gz [(1,_),(2,_),(3,_),(6,_),(7,_),(8,_),(11,_),(30,_),(31,_),(32,_),(58,_)] ⟨h1,h2,h3,h6,h7,h8,h11,h30,h31,h32,h58⟩ ?_)))
     rintro s ⟨h1,h2,h3,h6,h7,h8,h11,h30,h31,h32,h58⟩
     exact LK H x_2 x_3 x_1 x_92 x_43 e_107 r_105 r_81 x_93 c1 Hc1 (zG F x_2 x_3 x_1 x_43 r_81 c1 k) ih (decide ((if e_107 > r_105 then e_107 else r_105) < e_113)) _ ⟨h1,h2,h3,h6,h7,h8,h11,h30,h31,h32,h58⟩ h
   refine .exit (.esq (.elp (.ebk (.nbk (.nsq (rg (gm h8 fun h20=>g1 20 (ji (w64 (x_43 - 1))) h20 fun h21=>gm h21 fun h8=>gq (.nlp ?_))))))))
   exact Hc1 x_92 (w64 (x_43 - 1)) _ ⟨h1,h2,h3,h6,h7,h8⟩ h
def zB (F:Nat) (x_2:Int) (x_3:(Cl 26 ((S1 LI)×Unit) Unit)) (x_1:(S1 LI)) :Nat→LI→Int→Option LI
 | 0,_,_=>none
 | k + 1,x_42,x_43=>
   bif decide (x_43≥0) then
    (idx x_42 x_43).bind fun e_79=>
    (yg F x_1).bind fun r_80=>
    (vG F (zK .i64 r_80 x_43)).bind fun r_81=>
    zG F x_2 x_3 x_1 x_43 r_81 (zB F x_2 x_3 x_1 k) F (x_42.set x_43.toNat x_2) 0
   else
    some x_42
theorem zcC (H:M1 D σ F) (x_2:Int) (x_3:(Cl 26 ((S1 LI)×Unit) Unit)) (x_1:(S1 LI)) :∀ (k:Nat) (x_42:LI) (x_43:Int) (s:Nat→V),zl [(1,ji x_2),(2,.fn 26 [.agg [eL x_3.fs.1.a]] []),(3,.ref (.bx 3) 0 [] (.agg [eL x_1.a])),(6,nI),(7,oI 7 [] (.of x_42)),(8,ji x_43)] s→zB F x_2 x_3 x_1 k x_42 x_43=some r→Run D σ (Jd r) (.run ux [.lp ux,.bk 0,.sq Zv]) s:=by
 intro k
 induction k with
 | zero=>intro x_42 x_43 s _ h;exact nm h
 | succ k ih=>
   intro x_42 x_43 s hs h
   rw [zB] at h
   obtain ⟨h1,h2,h3,h6,h7,h8⟩:=hs
   refine .seq (.seq (rg (gm h8 fun h18=>g1 18 (jb (decide (x_43≥0))) h18 fun h19=>gq (.nsq (zk (t:=decide (x_43≥0)) h19 h (fun h=>?_) (fun h=>?_))))))
   · refine .skip (.nsq (.seq (.block (.seq (rg (gm h7 fun h22=>gm h8 fun h23=>gm h1 fun h24=>?_))))))
     obtain ⟨e_79,E_e_79,h⟩:=bind_some h
     refine gv (.ref (.at 7 []) x_43.toNat [] (ji e_79)) (wE (o:=.of x_42) h22 h23 E_e_79 rfl) fun h25=>yb (ji x_2) (zw h25 rfl) (zw h24 rfl) (wj (by first | rfl | simp [V.toks,V.tokss,Enc.toks_enc,ya])) (gz [(1,ji x_2),(2,.fn 26 [.agg [eL x_3.fs.1.a]] []),(3,.ref (.bx 3) 0 [] (.agg [eL x_1.a])),(6,nI),(7,_),(8,ji x_43)] ⟨zb h1 rfl,zb h2 (zaC (zp (yr (zp uE rfl)) rfl) rfl),zb h3 (zC rfl rfl (yr (zp uE rfl))),zb h6 rfl,zb h7 X0,zb h8 rfl⟩ ?_)
     rintro s ⟨h1,h2,h3,h6,h7,h8⟩
     refine .nsq (.seq (rg (g1 3 (.agg [eL x_1.a]) h3 fun h26=>?_)))
     obtain ⟨r_80,E_r_80,h⟩:=bind_some h
     refine zF (m:=0) (al:=false) (r:=Enc.enc (r_80:Int)) [Enc.enc (x_1:(S1 LI))] (ze (v:=.agg [eL x_1.a]) h26 rfl (Enc.erase_enc (x_1:(S1 LI))) zx) (H.c28 _ _ E_r_80) H.g28 rfl rfl rfl rfl (gm h8 fun h28=>g2 27 28 (ji (zK .i64 r_80 x_43)) (rf (ji r_80)) h28 fun h29=>?_)
     obtain ⟨r_81,E_r_81,h⟩:=bind_some h
     refine zF (m:=0) (al:=false) (r:=eL r_81) [Enc.enc (zK .i64 r_80 x_43:Int)] (ze (v:=ji (zK .i64 r_80 x_43)) h29 rfl rfl zx) (H.c29 _ _ E_r_81) H.g29 rfl rfl rfl rfl (gv (ji (r_81.length:Int)) (yu (xs:=r_81) rfl) fun h31=>g0 (ji 0) fun h32=>gq (.nsq (.block (.loop ?_))))
     exact zcM H x_2 x_3 x_1 x_43 r_81 (zB F x_2 x_3 x_1 k) ih F (x_42.set x_43.toNat x_2) 0 _ ⟨h1,h2,h3,h6,h7,h8,rfl,h31,h32⟩ h
   refine .exit (.esq (.elp (.ebk (.nsq (.seq (rg (gm h7 fun h64=>gm h64 fun h6=>yQ (yC (r:=7) (x:=6) (v:=_) h6 rfl (fun s_4 hg_4=>?_)))))))))
   refine ez [(6,oI 6 [] (.of x_42))] (hg_4 6 _ _ h6 (zj (r:=7) (p:=[]) rfl rfl)) ?_
   rintro s h6
   refine .nsq (.ret ?_)
   have hr:=Option.some.inj h
   subst hr
   exact rrA (zn h6) (vh (vA (o:=.of x_42)) (xB rfl))
def yd (F:Nat) (x_1:(S1 LI)) (x_2:Int) (x_3:(Cl 26 ((S1 LI)×Unit) Unit)):Option LI:=
 (yg F x_1).bind fun r_4=>
 (mkN (w64 (r_4 + 1)) (0:Int)).bind fun mk_5=>
 (yg F x_1).bind fun r_6=>
 zB F x_2 x_3 x_1 F mk_5 r_6
theorem zqs (H:M1 D σ F) (x_1:(S1 LI)) (x_2:Int) (x_3:(Cl 26 ((S1 LI)×Unit) Unit)) (s:Nat→V) (hs:zl [(0,.agg [eL x_1.a]),(1,ji x_2),(2,.fn 26 [.agg [eL x_3.fs.1.a]] [])] s) (h:yd F x_1 x_2 x_3=some r):Run D σ (Jd r) (.run zkZ []) s:=by
 unfold yd at h
 obtain ⟨h0,h1,h2⟩:=hs
 refine .seq (zq (zS ?_))
 refine ez [(0,_),(1,_),(2,_),(3,_)] ⟨za h0 rfl (zA (zd me zh)),za h1 rfl mi,za h2 rfl (X7 (zd (zA (zd me zh)) zh) zh),zc rfl⟩ ?_
 rintro s ⟨h0,h1,h2,h3⟩
 refine xz (.agg [eL x_1.a]) (zw h0 rfl) h3 rfl (g0 nI fun h6=>gq (.nsq (.seq (zq (zS ?_)))))
 refine ez [(1,_),(2,_),(3,_),(6,_),(15,_)] ⟨za h1 rfl mi,za h2 rfl (X7 (zd (zA (zd me zh)) zh) zh),za rfl rfl (zf rfl (zA (zd me zh))),za h6 rfl rfl,zc rfl⟩ ?_
 rintro s ⟨h1,h2,h3,h6,h15⟩
 refine g1 3 (.agg [eL x_1.a]) h3 fun h12=>?_
 obtain ⟨r_4,E_r_4,h⟩:=bind_some h
 refine zF (m:=0) (al:=false) (r:=Enc.enc (r_4:Int)) [Enc.enc (x_1:(S1 LI))] (ze (v:=.agg [eL x_1.a]) h12 rfl (Enc.erase_enc (x_1:(S1 LI))) zx) (H.c28 _ _ E_r_4) H.g28 rfl rfl rfl rfl (g1 13 (ji (w64 (r_4 + 1))) (rf (ji r_4)) fun h14=>?_)
 obtain ⟨mk_5,E_mk_5,h⟩:=bind_some h
 refine zki (0:Int) h14 rfl h15 E_mk_5 (gm (rf (oI 15 [] (.of mk_5))) fun h7=>yQ (yC (r:=15) (x:=7) (v:=_) h7 rfl (fun s_3 hg_3=>?_)))
 refine ez [(1,ji x_2),(2,.fn 26 [.agg [eL x_3.fs.1.a]] []),(3,.ref (.bx 3) 0 [] (.agg [eL x_1.a])),(6,nI),(7,oI 7 [] (.of mk_5))] ⟨hg_3 1 _ _ h1 mi,hg_3 2 _ _ h2 (X7 (zd (zA (zd me zh)) zh) zh),hg_3 3 _ _ h3 (zf rfl (zA (zd me zh))),hg_3 6 _ _ h6 rfl,hg_3 7 _ _ h7 (zj (r:=15) (p:=[]) rfl rfl)⟩ ?_
 rintro s ⟨h1,h2,h3,h6,h7⟩
 refine .nsq (.seq (.seq (rg (g1 3 (.agg [eL x_1.a]) h3 fun h16=>?_))))
 obtain ⟨r_6,E_r_6,h⟩:=bind_some h
 refine zF (m:=0) (al:=false) (r:=Enc.enc (r_6:Int)) [Enc.enc (x_1:(S1 LI))] (ze (v:=.agg [eL x_1.a]) h16 rfl (Enc.erase_enc (x_1:(S1 LI))) zx) (H.c28 _ _ E_r_6) H.g28 rfl rfl rfl rfl (gm (rf (ji r_6)) fun h8=>gq (.nsq (.block (.loop ?_))))
 exact zcC H x_2 x_3 x_1 F mk_5 r_6 _ ⟨h1,h2,h3,h6,h7,h8⟩ h
end
def zhW (F:Nat):Ent:=ent 50 (fun (x:((S1 LI)×Int×(Cl 26 ((S1 LI)×Unit) Unit)×Unit))=>yd F x.1 x.2.1 x.2.2.1) (fun (r:LI)=>(eL r)) 0 false [(2,26)]
abbrev zkU (D:List V→Option V) (F:Nat):Prop:=∀ (x0:(S1 LI)) (x1:Int) (x2:(Cl 26 ((S1 LI)×Unit) Unit)) r,yd F x0 x1 x2=some r→D [Enc.enc x0,Enc.enc x1,Arg.arg x2]=some (eL r)
theorem zo7 {F:Nat}:zkU (zhW F).den F:=fun x0 x1 x2 _ h=>zN (x0,x1,x2,()) h
theorem zn2 {D:Den} {σ:Sig} {F:Nat} (hF:zy Try.prog D σ) (H:M1 D σ F):(zhW F).Ok Try.prog:=by
 refine yl (f:=50) (show unk 50=50 from rfl) (fun args r h=>?_) ⟨Try.f50,Try.func50,rfl,rfl⟩
 obtain ⟨⟨x0,x1,x2,_⟩,y,rfl,hy,rfl⟩:=zM h
 exact zm hF (by kernel_rfl) Try.func50 rfl c50s1 (show 3≤Try.f50.ntmps by decide) (zqs H x0 x1 x2 _ ⟨rfl,rfl,rfl⟩ hy)
def zot:AC:=(.seq (.reg [] [jv 3 (.load (.ag [.p]) (.t 1)),jv 4 (.load (.ag [.p]) (.t 1)),jv 5 (.fn 26 [.t 4] []),jx 6 (.call (jf 50) [.t 3,jn (-1),.t 5]),jm 2 6] []) .ret)
def A25:AC:=(.seq (.reg [.clr [1]] [jx 1 (.box (.t 0)),jv 2 (.mov (.k (.sl .nl .s 0 [])))] []) zot)
def ztR:List An:=[⟨0,[.clr [1]],[],[],[]⟩]
theorem c25:cC Try.prog Try.f25.ntmps ztR (Try.f25.body.getD .skip)=some A25:=by kernel_rfl
structure H25 (D:Den) (σ:Sig) (F:Nat):Prop where
 c50s1:zkU (D 50) F
 g50s1:σ 50=some (0,false)
abbrev R25 (r:LI):(Nat→V)→Prop:=RR Try.prog [.tmp 2] 0 true (eL r)
section
variable {D:Den} {σ:Sig} {F:Nat} {r:LI}
def xv (F:Nat) (x_1:(S1 LI)):Option LI:=
 (yd F x_1 (-1) (Cl.mk (x_1,()) ():(Cl 26 ((S1 LI)×Unit) Unit))).bind fun r_2=>
 some r_2
theorem t25 (H:H25 D σ F) (x_1:(S1 LI)) (s:Nat→V) (hs:zl [(0,.agg [eL x_1.a])] s) (h:xv F x_1=some r):Run D σ (R25 r) (.run A25 []) s:=by
 unfold xv at h
 have h0:=hs
 refine .seq (zq (zS ?_))
 refine ez [(0,_),(1,_)] ⟨za h0 rfl (zA (zd me zh)),zc rfl⟩ ?_
 rintro s ⟨h0,h1⟩
 refine xz (.agg [eL x_1.a]) (zw h0 rfl) h1 rfl (g0 nI fun h2=>gq (.nsq (.seq (rg (g1 1 (.agg [eL x_1.a]) (rf (.ref (.bx 1) 0 [] (.agg [eL x_1.a]))) fun h3=>g1 1 (.agg [eL x_1.a]) (rf (.ref (.bx 1) 0 [] (.agg [eL x_1.a]))) fun h4=>g1 4 (.fn 26 [.agg [eL x_1.a]] []) h4 fun h5=>?_)))))
 obtain ⟨r_2,E_r_2,h⟩:=bind_some h
 refine zF (m:=0) (al:=false) (r:=eL r_2) [Enc.enc (x_1:(S1 LI)),Enc.enc ((-1):Int),Arg.arg ((Cl.mk (x_1,()) ():(Cl 26 ((S1 LI)×Unit) Unit)):(Cl 26 ((S1 LI)×Unit) Unit))] (ze (v:=.agg [eL x_1.a]) h3 rfl (Enc.erase_enc (x_1:(S1 LI))) (ze (v:=ji (-1)) rfl rfl rfl (ze (v:=.fn 26 [.agg [eL x_1.a]] []) h5 rfl (Uj (xN (Enc.erase_enc (x_1:(S1 LI))) xf) xf) zx))) (H.c50s1 _ _ _ _ E_r_2) H.g50s1 rfl rfl rfl rfl (gm (rf (eL r_2)) fun h2=>gq (.nsq (.ret ?_)))
 have hr:=Option.some.inj h
 subst hr
 exact rrA (zn h2) (Yo (vD (x:=(r_2:LI))))
end
def e25 (F:Nat):Ent:=ent 25 (fun (x:((S1 LI)×Unit))=>xv F x.1) (fun (r:LI)=>(eL r)) 0 true []
abbrev C25 (D:List V→Option V) (F:Nat):Prop:=∀ (x0:(S1 LI)) r,xv F x0=some r→D [Enc.enc x0]=some (eL r)
theorem p25 {F:Nat}:C25 (e25 F).den F:=fun x0 _ h=>zN (x0,()) h
theorem o25 {D:Den} {σ:Sig} {F:Nat} (hF:zy Try.prog D σ) (H:H25 D σ F):(e25 F).Ok Try.prog:=by
 refine yl (f:=25) (show unk 25=25 from rfl) (fun args r h=>?_) ⟨Try.f25,Try.func25,rfl,rfl⟩
 obtain ⟨⟨x0,_⟩,y,rfl,hy,rfl⟩:=zM h
 exact zm hF (by kernel_rfl) Try.func25 rfl c25 (show 1≤Try.f25.ntmps by decide) (t25 H x0 _ rfl hy)
def zn3:AC:=(.seq (.reg [] [jv 3 (.load (.ag [.p]) (.t 1)),jx 4 (.call (jf 25) [.t 3]),jv 5 (.idx (.t 4) (jn 0) 1),jv 6 (.load .s (.t 5)),jm 2 6] []) .ret)
def A21:AC:=(.seq (.reg [.clr [1]] [jx 1 (.box (.t 0)),jv 2 (.mov (jn 0))] []) zn3)
def ztF:List An:=[⟨0,[.clr [1]],[],[],[]⟩]
theorem c21:cC Try.prog Try.f21.ntmps ztF (Try.f21.body.getD .skip)=some A21:=by kernel_rfl
structure H21 (D:Den) (σ:Sig) (F:Nat):Prop where
 c25:C25 (D 25) F
 g25:σ 25=some (0,true)
abbrev R21 (r:Int):(Nat→V)→Prop:=RR Try.prog [.tmp 2] 0 false (Enc.enc (r:Int))
section
variable {D:Den} {σ:Sig} {F:Nat} {r:Int}
def vy (F:Nat) (x_1:(S1 LI)):Option Int:=
 (xv F x_1).bind fun r_2=>
 (idx r_2 0).bind fun e_3=>
 some e_3
theorem t21 (H:H21 D σ F) (x_1:(S1 LI)) (s:Nat→V) (hs:zl [(0,.agg [eL x_1.a])] s) (h:vy F x_1=some r):Run D σ (R21 r) (.run A21 []) s:=by
 unfold vy at h
 have h0:=hs
 refine .seq (zq (zS ?_))
 refine ez [(0,_),(1,_)] ⟨za h0 rfl (zA (zd me zh)),zc rfl⟩ ?_
 rintro s ⟨h0,h1⟩
 refine xz (.agg [eL x_1.a]) (zw h0 rfl) h1 rfl (g0 (ji 0) fun h2=>gq (.nsq (.seq (rg (g1 1 (.agg [eL x_1.a]) (rf (.ref (.bx 1) 0 [] (.agg [eL x_1.a]))) fun h3=>?_)))))
 obtain ⟨r_2,E_r_2,h⟩:=bind_some h
 refine zF (m:=0) (al:=true) (r:=eL r_2) [Enc.enc (x_1:(S1 LI))] (ze (v:=.agg [eL x_1.a]) h3 rfl (Enc.erase_enc (x_1:(S1 LI))) zx) (H.c25 _ _ E_r_2) H.g25 (Jq (WQ (v:=.agg [eL x_1.a]) h3 rfl rfl Jw)) rfl rfl rfl ?_
 obtain ⟨e_3,E_e_3,h⟩:=bind_some h
 refine gv (.ref .sh 0 [] (ji e_3)) (yz (t:=.sh) (lo:=0) (xs:=r_2) rfl rfl E_e_3 rfl rfl) fun h5=>g1 5 (ji e_3) h5 fun h6=>gm h6 fun h2=>gq (.nsq (.ret ?_))
 have hr:=Option.some.inj h
 subst hr
 exact rrA (zn h2) rfl
end
def e21 (F:Nat):Ent:=ent 21 (fun (x:((S1 LI)×Unit))=>vy F x.1) (fun (r:Int)=>(Enc.enc (r:Int))) 0 false []
abbrev C21 (D:List V→Option V) (F:Nat):Prop:=∀ (x0:(S1 LI)) r,vy F x0=some r→D [Enc.enc x0]=some (Enc.enc (r:Int))
theorem p21 {F:Nat}:C21 (e21 F).den F:=fun x0 _ h=>zN (x0,()) h
theorem o21 {D:Den} {σ:Sig} {F:Nat} (hF:zy Try.prog D σ) (H:H21 D σ F):(e21 F).Ok Try.prog:=by
 refine yl (f:=21) (show unk 21=21 from rfl) (fun args r h=>?_) ⟨Try.f21,Try.func21,rfl,rfl⟩
 obtain ⟨⟨x0,_⟩,y,rfl,hy,rfl⟩:=zM h
 exact zm hF (by kernel_rfl) Try.func21 rfl c21 (show 1≤Try.f21.ntmps by decide) (t21 H x0 _ rfl hy)
def zuV:AC:=(.cond (.t 6) (.seq (.reg [] [jv 2 (.mov (jn 0)),jv 3 (.mov kf)] []) .ret) .skip)
def zuE:AC:=(.seq (.reg [] [jv 7 (.load (.ag [.s,.p]) (.t 1)),jx 8 (.call (jf 20) [.t 7]),jx 9 (.call (jf 21) [.t 8]),jm 2 9,jv 3 (.mov kt)] []) .ret)
def zuj:AC:=(.seq (.seq (.reg [] [jv 4 (.load (.ag [.s,.p]) (.t 1)),jx 5 (.call (jf 19) [.t 4]),jv 6 (.un .not (.t 5))] []) zuV) zuE)
def A6:AC:=(.seq (.reg [.clr [1]] [jx 1 (.box (.t 0)),jv 2 (.mov (jn 0)),jv 3 (.mov kf)] []) zuj)
def an6:List An:=[⟨0,[.clr [1]],[],[],[]⟩]
theorem c6:cC Try.prog Try.f6.ntmps an6 (Try.f6.body.getD .skip)=some A6:=by kernel_rfl
structure H6 (D:Den) (σ:Sig) (F:Nat):Prop where
 c19:C19 (D 19) F
 g19:σ 19=some (0,false)
 c20:C20 (D 20) F
 g20:σ 20=some (0,false)
 c21:C21 (D 21) F
 g21:σ 21=some (0,false)
abbrev R6 (r:(Int×Bool)):(Nat→V)→Prop:=RR Try.prog [.tmp 2,.tmp 3] 0 false (.tup [Enc.enc (r.1:Int),Enc.enc (r.2:Bool)])
section
variable {D:Den} {σ:Sig} {F:Nat} {r:(Int×Bool)}
def wz (F:Nat) (x_1:GR):Option (Int×Bool):=
 (wq F x_1).bind fun r_2=>
 bif (!r_2) then
  some (0,false)
 else
  (vS F x_1).bind fun r_3=>
  (vy F r_3).bind fun r_4=>
  some (r_4,true)
theorem t6 (H:H6 D σ F) (x_1:GR) (s:Nat→V) (hs:zl [(0,gV x_1)] s) (h:wz F x_1=some r):Run D σ (R6 r) (.run A6 []) s:=by
 unfold wz at h
 have h0:=hs
 refine .seq (zq (zS ?_))
 refine ez [(0,_),(1,_)] ⟨za h0 rfl mIE,zc rfl⟩ ?_
 rintro s ⟨h0,h1⟩
 refine xz (gV x_1) (zw h0 rfl) h1 rfl (g0 (ji 0) fun h2=>g0 (jb false) fun h3=>gq (.nsq (.seq (.seq (rg (g1 1 (gV x_1) (rf (bG 1 x_1)) fun h4=>?_))))))
 obtain ⟨r_2,E_r_2,h⟩:=bind_some h
 refine zF (m:=0) (al:=false) (r:=Enc.enc (r_2:Bool)) [Enc.enc (x_1:GR)] (ze (v:=gV x_1) h4 rfl (Enc.erase_enc (x_1:GR)) zx) (H.c19 _ _ E_r_2) H.g19 rfl rfl rfl rfl (g1 5 (jb (!r_2)) (rf (jb r_2)) fun h6=>gq (.nsq (zk (t:=(!r_2)) h6 h (fun h=>?_) (fun h=>?_))))
 · refine .seq (rg (g0 (ji 0) fun h2=>g0 (jb false) fun h3=>gq (.nsq (.ret ?_))))
   have hr:=Option.some.inj h
   subst hr
   exact rrB (zn h2) (zn h3) rfl
 refine .skip (.nsq (.seq (rg (g1 1 (gV x_1) (rf (bG 1 x_1)) fun h7=>?_))))
 obtain ⟨r_3,E_r_3,h⟩:=bind_some h
 refine zF (m:=0) (al:=false) (r:=Enc.enc (r_3:(S1 LI))) [Enc.enc (x_1:GR)] (ze (v:=gV x_1) h7 rfl (Enc.erase_enc (x_1:GR)) zx) (H.c20 _ _ E_r_3) H.g20 rfl rfl rfl rfl ?_
 obtain ⟨r_4,E_r_4,h⟩:=bind_some h
 refine zF (m:=0) (al:=false) (r:=Enc.enc (r_4:Int)) [Enc.enc (r_3:(S1 LI))] (ze (v:=.agg [eL r_3.a]) rfl rfl (Enc.erase_enc (r_3:(S1 LI))) zx) (H.c21 _ _ E_r_4) H.g21 rfl rfl rfl rfl (gm (rf (ji r_4)) fun h2=>g0 (jb true) fun h3=>gq (.nsq (.ret ?_)))
 have hr:=Option.some.inj h
 subst hr
 exact rrB (zn h2) (zn h3) rfl
end
def e6 (F:Nat):Ent:=ent 6 (fun (x:(GR×Unit))=>wz F x.1) (fun (r:(Int×Bool))=>(.tup [Enc.enc (r.1:Int),Enc.enc (r.2:Bool)])) 0 false []
abbrev C6 (D:List V→Option V) (F:Nat):Prop:=∀ (x0:GR) r,wz F x0=some r→D [Enc.enc x0]=some (.tup [Enc.enc (r.1:Int),Enc.enc (r.2:Bool)])
theorem p6 {F:Nat}:C6 (e6 F).den F:=fun x0 _ h=>zN (x0,()) h
theorem o6 {D:Den} {σ:Sig} {F:Nat} (hF:zy Try.prog D σ) (H:H6 D σ F):(e6 F).Ok Try.prog:=by
 refine yl (f:=6) (show unk 6=6 from rfl) (fun args r h=>?_) ⟨Try.f6,Try.func6,rfl,rfl⟩
 obtain ⟨⟨x0,_⟩,y,rfl,hy,rfl⟩:=zM h
 exact zm hF (by kernel_rfl) Try.func6 rfl c6 (show 1≤Try.f6.ntmps by decide) (t6 H x0 _ rfl hy)
def zqG:AC:=(.seq (.reg [] [jm 7 0,jm 8 1,jv 9 (.bin .geq (.t 7) (.t 8)),jm 10 9,jg 11 10 true (.mov (.t 0)),jg 12 10 true (.mov (.t 2)),jg 13 10 true (.bin .leq (.t 11) (.t 12)),jv 14 (.pick (.t 10) (.t 13) kf),jm 6 14] []) .ret)
def A47:AC:=(.seq (.reg [] [jv 6 (.mov kf)] []) zqG)
def zuZ:List An:=[]
theorem c47:cC Try.prog Try.f47.ntmps zuZ (Try.f47.body.getD .skip)=some A47:=by kernel_rfl
structure H47 (D:Den) (σ:Sig) (F:Nat):Prop where
 mk ::
abbrev R47 (r:Bool):(Nat→V)→Prop:=RR Try.prog [.tmp 6] 0 false (Enc.enc (r:Bool))
section
variable {D:Den} {σ:Sig} {F:Nat} {r:Bool}
def W1 (F:Nat) (x_1:Int) (x_2:Int) (x_3:Int):Option Bool:=
 bif decide (x_1≥x_2) then
  some (decide (x_1≤x_3))
 else
  some false
theorem t47 (H:H47 D σ F) (x_1:Int) (x_2:Int) (x_3:Int) (s:Nat→V) (hs:zl [(0,ji x_1),(1,ji x_2),(2,ji x_3)] s) (h:W1 F x_1 x_2 x_3=some r):Run D σ (R47 r) (.run A47 []) s:=by
 unfold W1 at h
 obtain ⟨h0,h1,h2⟩:=hs
 refine .seq (rg (g0 (jb false) fun h6=>gq (.nsq (.seq (rg (gm h0 fun h7=>gm h1 fun h8=>g2 7 8 (jb (decide (x_1≥x_2))) h7 h8 fun h9=>gm h9 fun h10=>zW (c:=decide (x_1≥x_2)) h (fun hg4 h=>?_) (fun hg4 h=>?_)))))))
 · refine zg (ct h10 hg4) (gm h0 fun h11=>zg (ct h10 hg4) (gm h2 fun h12=>zg (ct h10 hg4) (g2 11 12 (jb (decide (x_1≤x_3))) h11 h12 fun h13=>g2 10 13 (jb (decide (x_1≤x_3))) (ct h10 hg4) h13 fun h14=>gm h14 fun h6=>gq (.nsq (.ret ?_)))))
   have hr:=Option.some.inj h
   subst hr
   exact rrA (zn h6) rfl
 iterate 3 refine z9 (ct h10 hg4) ?_
 refine g2 10 13 (jb false) (ct h10 hg4) (rf (.tup [])) fun h14=>gm h14 fun h6=>gq (.nsq (.ret ?_))
 have hr:=Option.some.inj h
 subst hr
 exact rrA (zn h6) rfl
end
def e47 (F:Nat):Ent:=ent 47 (fun (x:(Int×Int×Int×Unit))=>W1 F x.1 x.2.1 x.2.2.1) (fun (r:Bool)=>(Enc.enc (r:Bool))) 0 false []
abbrev C47 (D:List V→Option V) (F:Nat):Prop:=∀ (x0:Int) (x1:Int) (x2:Int) r,W1 F x0 x1 x2=some r→D [Enc.enc x0,Enc.enc x1,Enc.enc x2]=some (Enc.enc (r:Bool))
theorem p47 {F:Nat}:C47 (e47 F).den F:=fun x0 x1 x2 _ h=>zN (x0,x1,x2,()) h
theorem o47 {D:Den} {σ:Sig} {F:Nat} (hF:zy Try.prog D σ) (H:H47 D σ F):(e47 F).Ok Try.prog:=by
 refine yl (f:=47) (show unk 47=47 from rfl) (fun args r h=>?_) ⟨Try.f47,Try.func47,rfl,rfl⟩
 obtain ⟨⟨x0,x1,x2,_⟩,y,rfl,hy,rfl⟩:=zM h
 exact zm hF (by kernel_rfl) Try.func47 rfl c47 (show 3≤Try.f47.ntmps by decide) (t47 H x0 x1 x2 _ ⟨rfl,rfl,rfl⟩ hy)
def zo3:AC:=(.cond (.t 9) .skip (.exit 0))
def zkT:AC:=(.cond (.t 54) (.seq (.reg [] [jv 2 (.mov kf)] []) .ret) .skip)
def zq8:AC:=(.seq (.reg [] [jv 17 (.idxA (.t 4) (jn 0) 2 1),jv 18 (.load .s (.t 17)),jv 19 (.fld (.t 1) 0 0),jv 20 (.load .s (.t 19)),jv 21 (.bin .sub (.t 20) (jn 1)),jx 22 (.call (jf 47) [.t 18,jn 0,.t 21]),jv 23 (.un .not (.t 22)),jm 24 23,jg 25 24 false (.idxA (.t 4) (jn 1) 2 1),jg 26 24 false (.load .s (.t 25)),jg 27 24 false (.fld (.t 1) 0 0),jg 28 24 false (.load .s (.t 27)),jg 29 24 false (.bin .sub (.t 28) (jn 1)),.mk (some 30) (some (24,false)) false (.call (jf 47) [.t 26,jn 0,.t 29]),jg 31 24 false (.un .not (.t 30)),jv 32 (.pick (.t 24) kt (.t 31)),jm 33 32,jg 34 33 false (.idxA (.t 4) (jn 0) 2 1),jg 35 33 false (.load .s (.t 34)),jg 36 33 false (.idxA (.t 4) (jn 1) 2 1),jg 37 33 false (.load .s (.t 36)),jg 38 33 false (.bin .geq (.t 35) (.t 37)),jv 39 (.pick (.t 33) kt (.t 38)),jm 40 39,jg 41 40 false (.mov (.t 3)),jg 42 40 false (.bin .gtr (.t 41) (jn 0)),jg 43 40 false (.mov (.t 42)),jg 44 43 true (.fld (.t 1) 1 1),jg 45 43 true (.load .p (.t 44)),jg 46 43 true (.mov (.t 3)),jg 47 43 true (.bin .sub (.t 46) (jn 1)),jg 48 43 true (.idx (.t 45) (.t 47) 2),jg 49 43 true (.load (.ag [.s,.s]) (.t 48)),jg 50 43 true (.load (.ag [.s,.s]) (.t 4)),.mk (some 51) (some (43,true)) false (.call (jf 48) [.t 49,.t 50]),jg 52 43 true (.un .not (.t 51)),jg 53 40 false (.pick (.t 43) (.t 52) kf),jv 54 (.pick (.t 40) kt (.t 53))] []) zkT)
def zk9:AC:=(.reg [] [jm 10 3,jv 11 (.bin .add (.t 10) (jn 1)),jm 3 11] [])
def zsI:AC:=(.seq (.block 1 (.seq (.reg [.clr [4]] [jv 12 (.fld (.t 1) 1 1),jv 13 (.load .p (.t 12)),jm 14 3,jv 15 (.idx (.t 13) (.t 14) 2),jv 16 (.load (.ag [.s,.s]) (.t 15)),jx 4 (.alloc (.agg [i0,i0])),jz (.store (.ag [.s,.s]) (.t 4) (.t 16))] []) zq8)) zk9)
def Na:AC:=(.seq (.seq (.reg [] [jm 5 3,jv 6 (.fld (.t 1) 1 1),jv 7 (.load .p (.t 6)),jv 8 (.len (.t 7)),jv 9 (.bin .lss (.t 5) (.t 8))] []) zo3) zsI)
def zeA:AC:=(.seq (.reg [] [jv 55 (.fld (.t 1) 0 0),jv 56 (.load .s (.t 55)),jx 57 (.call (jf 47) [.t 56,jn 0,jn 8]),jm 2 57] []) .ret)
def zqh:AC:=(.block 0 (.loop Na))
def zqM:AC:=(.seq (.seq (.reg [] [jv 3 (.mov (jn 0))] []) zqh) zeA)
def A22:AC:=(.seq (.reg [.clr [1]] [jx 1 (.box (.t 0)),jv 2 (.mov kf)] []) zqM)
def ztV:List An:=[⟨0,[.clr [1]],[],[],[]⟩,⟨4,[.clr [4]],[],[],[]⟩]
theorem c22:cC Try.prog Try.f22.ntmps ztV (Try.f22.body.getD .skip)=some A22:=by kernel_rfl
structure H22 (D:Den) (σ:Sig) (F:Nat):Prop where
 c47:C47 (D 47) F
 g47:σ 47=some (0,false)
 c48:C48 (D 48) F
 g48:σ 48=some (0,false)
abbrev R22 (r:Bool):(Nat→V)→Prop:=RR Try.prog [.tmp 2] 0 false (Enc.enc (r:Bool))
section
variable {D:Den} {σ:Sig} {F:Nat} {r:Bool}
def v7 (F:Nat) (x_1:GR) (x_12:Int) (c1:Int→Option Bool) (x_28:Bool):Option Bool:=
 bif x_28 then
  some false
 else
  c1 (w64 (x_12 + 1))
theorem UM (H:H22 D σ F) (x_1:GR) (x_12:Int) (c1:Int→Option Bool) (Hc1:∀ (x_12:Int) (s:Nat→V),zl [(1,bG 1 x_1),(2,jb false),(3,ji x_12)] s→c1 x_12=some r→Run D σ (R22 r) (.run Na [.lp Na,.bk 0,.sq zeA]) s) (x_28:Bool) (s:Nat→V) (hs:zl [(1,bG 1 x_1),(2,jb false),(3,ji x_12),(54,jb x_28)] s) (h:v7 F x_1 x_12 c1 x_28=some r):Run D σ (R22 r) (.nrm [.sq zkT,.bk 1,.sq zk9,.lp Na,.bk 0,.sq zeA]) s:=by
 unfold v7 at h
 obtain ⟨h1,h2,h3,h54⟩:=hs
 refine .nsq (zk (t:=x_28) h54 h (fun h=>?_) (fun h=>?_))
 · refine .seq (rg (g0 (jb false) fun h2=>gq (.nsq (.ret ?_))))
   have hr:=Option.some.inj h
   subst hr
   exact rrA (zn h2) rfl
 refine .skip (.nbk (.nsq (rg (gm h3 fun h10=>g1 10 (ji (w64 (x_12 + 1))) h10 fun h11=>gm h11 fun h3=>gq (.nlp ?_)))))
 exact Hc1 (w64 (x_12 + 1)) _ ⟨h1,h2,h3⟩ h
def xn (F:Nat) (x_1:GR) :Nat→Int→Option Bool
 | 0,_=>none
 | k + 1,x_12=>
   bif decide (x_12 < (x_1.2.length:Int)) then
    (idx x_1.2 x_12).bind fun e_23=>
    (W1 F e_23.1 0 (w64 (x_1.1 - 1))).bind fun r_29=>
    bif (!r_29) then
     v7 F x_1 x_12 (xn F x_1 k) true
    else
     (W1 F e_23.2 0 (w64 (x_1.1 - 1))).bind fun r_30=>
     bif (!r_30) then
      v7 F x_1 x_12 (xn F x_1 k) true
     else
      bif decide (e_23.1≥e_23.2) then
       v7 F x_1 x_12 (xn F x_1 k) true
      else
       bif decide (x_12 > 0) then
        (idx x_1.2 (w64 (x_12 - 1))).bind fun e_31=>
        (uN F e_31 e_23).bind fun r_32=>
        v7 F x_1 x_12 (xn F x_1 k) (!r_32)
       else
        v7 F x_1 x_12 (xn F x_1 k) false
   else
    (W1 F x_1.1 0 8).bind fun r_33=>
    some r_33
theorem zhf (H:H22 D σ F) (x_1:GR) :∀ (k:Nat) (x_12:Int) (s:Nat→V),zl [(1,bG 1 x_1),(2,jb false),(3,ji x_12)] s→xn F x_1 k x_12=some r→Run D σ (R22 r) (.run Na [.lp Na,.bk 0,.sq zeA]) s:=by
 intro k
 induction k with
 | zero=>intro x_12 s _ h;exact nm h
 | succ k ih=>
   intro x_12 s hs h
   rw [xn] at h
   obtain ⟨h1,h2,h3⟩:=hs
   refine .seq (.seq (rg (gm h3 fun h5=>g1 1 (.ref (.bx 1) 0 [1] (eP x_1.2)) h1 fun h6=>g1 6 (eP x_1.2) h6 fun h7=>gv (ji (x_1.2.length:Int)) (yu (xs:=x_1.2) h7) fun h8=>g2 5 8 (jb (decide (x_12 < (x_1.2.length:Int)))) h5 h8 fun h9=>gq (.nsq (zk (t:=decide (x_12 < (x_1.2.length:Int))) h9 h (fun h=>?_) (fun h=>?_))))))
   · refine .skip (.nsq (.seq (.block (.seq (zq (zS ?_))))))
     refine ez [(1,_),(2,_),(3,_),(4,_)] ⟨za h1 rfl (zf rfl mIE),za h2 rfl mb,za h3 rfl mi,zc rfl⟩ ?_
     rintro s ⟨h1,h2,h3,h4⟩
     refine g1 1 (.ref (.bx 1) 0 [1] (eP x_1.2)) h1 fun h12=>g1 12 (eP x_1.2) h12 fun h13=>gm h3 fun h14=>?_
     obtain ⟨e_23,E_e_23,h⟩:=bind_some h
     refine gv (.ref .sh 0 [] (.agg [ji e_23.1,ji e_23.2])) (yz (t:=.sh) (lo:=0) (xs:=x_1.2) h13 h14 E_e_23 rfl rfl) fun h15=>g1 15 (.agg [ji e_23.1,ji e_23.2]) h15 fun h16=>xk h4 (yb (.agg [ji e_23.1,ji e_23.2]) (zw rfl rfl) (zw h16 rfl) (wj (by first | rfl | simp [V.toks,V.tokss,Enc.toks_enc,ya])) (gz [(1,bG 1 x_1),(2,jb false),(3,ji x_12),(4,.ref (.bx 4) 0 [] (.agg [ji e_23.1,ji e_23.2]))] ⟨zb h1 (zC rfl rfl uIE),zb h2 rfl,zb h3 rfl,zb rfl rfl⟩ ?_))
     rintro s ⟨h1,h2,h3,h4⟩
     refine .nsq (.seq (rg (g1 4 (.ref (.bx 4) 0 [0] (ji e_23.1)) h4 fun h17=>g1 17 (ji e_23.1) h17 fun h18=>g1 1 (.ref (.bx 1) 0 [0] (ji x_1.1)) h1 fun h19=>g1 19 (ji x_1.1) h19 fun h20=>g1 20 (ji (w64 (x_1.1 - 1))) h20 fun h21=>?_)))
     obtain ⟨r_29,E_r_29,h⟩:=bind_some h
     refine zF (m:=0) (al:=false) (r:=Enc.enc (r_29:Bool)) [Enc.enc (e_23.1:Int),Enc.enc (0:Int),Enc.enc (w64 (x_1.1 - 1):Int)] (ze (v:=ji e_23.1) h18 rfl rfl (ze (v:=ji 0) rfl rfl rfl (ze (v:=ji (w64 (x_1.1 - 1))) h21 rfl rfl zx))) (H.c47 _ _ _ _ E_r_29) H.g47 rfl rfl rfl rfl (g1 22 (jb (!r_29)) (rf (jb r_29)) fun h23=>gm h23 fun h24=>zW (c:=(!r_29)) h (fun hg8 h=>?_) (fun hg8 h=>?_))
     · iterate 7 refine z9 (ct h24 hg8) ?_
       refine g2 24 31 (jb true) (ct h24 hg8) (rf (.tup [])) fun h32=>gm h32 fun h33=>z9 h33 ?_
       iterate 4 refine z9 h33 ?_
       refine g2 33 38 (jb true) h33 (rf (.tup [])) fun h39=>gm h39 fun h40=>z9 h40 ?_
       iterate 2 refine z9 h40 ?_
       iterate 9 refine uw rfl ?_
       refine z9 h40 (g2 40 53 (jb true) h40 (rf (.tup [])) fun h54=>gz [(1,_),(2,_),(3,_),(54,_)] ⟨h1,h2,h3,h54⟩ ?_)
       rintro s ⟨h1,h2,h3,h54⟩
       exact UM H x_1 x_12 (xn F x_1 k) ih true _ ⟨h1,h2,h3,h54⟩ h
     refine zg (ct h24 hg8) (g1 4 (.ref (.bx 4) 0 [1] (ji e_23.2)) h4 fun h25=>zg (ct h24 hg8) (g1 25 (ji e_23.2) h25 fun h26=>zg (ct h24 hg8) (g1 1 (.ref (.bx 1) 0 [0] (ji x_1.1)) h1 fun h27=>zg (ct h24 hg8) (g1 27 (ji x_1.1) h27 fun h28=>zg (ct h24 hg8) (g1 28 (ji (w64 (x_1.1 - 1))) h28 fun h29=>?_)))))
     obtain ⟨r_30,E_r_30,h⟩:=bind_some h
     refine zg (ct h24 hg8) (zF (m:=0) (al:=false) (r:=Enc.enc (r_30:Bool)) [Enc.enc (e_23.2:Int),Enc.enc (0:Int),Enc.enc (w64 (x_1.1 - 1):Int)] (ze (v:=ji e_23.2) h26 rfl rfl (ze (v:=ji 0) rfl rfl rfl (ze (v:=ji (w64 (x_1.1 - 1))) h29 rfl rfl zx))) (H.c47 _ _ _ _ E_r_30) H.g47 rfl rfl rfl rfl (zg (ct h24 hg8) (g1 30 (jb (!r_30)) (rf (jb r_30)) fun h31=>g2 24 31 (jb (!r_30)) (ct h24 hg8) h31 fun h32=>gm h32 fun h33=>zW (c:=(!r_30)) h (fun hg17 h=>?_) (fun hg17 h=>?_))))
     · iterate 5 refine z9 (ct h33 hg17) ?_
       refine g2 33 38 (jb true) (ct h33 hg17) (rf (.tup [])) fun h39=>gm h39 fun h40=>z9 h40 ?_
       iterate 2 refine z9 h40 ?_
       iterate 9 refine uw rfl ?_
       refine z9 h40 (g2 40 53 (jb true) h40 (rf (.tup [])) fun h54=>gz [(1,_),(2,_),(3,_),(54,_)] ⟨h1,h2,h3,h54⟩ ?_)
       rintro s ⟨h1,h2,h3,h54⟩
       exact UM H x_1 x_12 (xn F x_1 k) ih true _ ⟨h1,h2,h3,h54⟩ h
     refine zg (ct h33 hg17) (g1 4 (.ref (.bx 4) 0 [0] (ji e_23.1)) h4 fun h34=>zg (ct h33 hg17) (g1 34 (ji e_23.1) h34 fun h35=>zg (ct h33 hg17) (g1 4 (.ref (.bx 4) 0 [1] (ji e_23.2)) h4 fun h36=>zg (ct h33 hg17) (g1 36 (ji e_23.2) h36 fun h37=>zg (ct h33 hg17) (g2 35 37 (jb (decide (e_23.1≥e_23.2))) h35 h37 fun h38=>g2 33 38 (jb (decide (e_23.1≥e_23.2))) (ct h33 hg17) h38 fun h39=>gm h39 fun h40=>zW (c:=decide (e_23.1≥e_23.2)) h (fun hg24 h=>?_) (fun hg24 h=>?_))))))
     · iterate 3 refine z9 (ct h40 hg24) ?_
       iterate 9 refine uw rfl ?_
       refine z9 (ct h40 hg24) (g2 40 53 (jb true) (ct h40 hg24) (rf (.tup [])) fun h54=>gz [(1,_),(2,_),(3,_),(54,_)] ⟨h1,h2,h3,h54⟩ ?_)
       rintro s ⟨h1,h2,h3,h54⟩
       exact UM H x_1 x_12 (xn F x_1 k) ih true _ ⟨h1,h2,h3,h54⟩ h
     refine zg (ct h40 hg24) (gm h3 fun h41=>zg (ct h40 hg24) (g1 41 (jb (decide (x_12 > 0))) h41 fun h42=>zg (ct h40 hg24) (gm h42 fun h43=>zW (c:=decide (x_12 > 0)) h (fun hg27 h=>?_) (fun hg27 h=>?_))))
     · refine zg (ct h43 hg27) (g1 1 (.ref (.bx 1) 0 [1] (eP x_1.2)) h1 fun h44=>zg (ct h43 hg27) (g1 44 (eP x_1.2) h44 fun h45=>zg (ct h43 hg27) (gm h3 fun h46=>zg (ct h43 hg27) (g1 46 (ji (w64 (x_12 - 1))) h46 fun h47=>?_))))
       obtain ⟨e_31,E_e_31,h⟩:=bind_some h
       refine zg (ct h43 hg27) (gv (.ref .sh 0 [] (.agg [ji e_31.1,ji e_31.2])) (yz (t:=.sh) (lo:=0) (xs:=x_1.2) h45 h47 E_e_31 rfl rfl) fun h48=>zg (ct h43 hg27) (g1 48 (.agg [ji e_31.1,ji e_31.2]) h48 fun h49=>zg (ct h43 hg27) (g1 4 (.agg [ji e_23.1,ji e_23.2]) h4 fun h50=>?_)))
       obtain ⟨r_32,E_r_32,h⟩:=bind_some h
       refine zg (ct h43 hg27) (zF (m:=0) (al:=false) (r:=Enc.enc (r_32:Bool)) [Enc.enc (e_31:(Int×Int)),Enc.enc (e_23:(Int×Int))] (ze (v:=.agg [ji e_31.1,ji e_31.2]) h49 rfl (Enc.erase_enc (e_31:(Int×Int))) (ze (v:=.agg [ji e_23.1,ji e_23.2]) h50 rfl (Enc.erase_enc (e_23:(Int×Int))) zx)) (H.c48 _ _ _ E_r_32) H.g48 rfl rfl rfl rfl (zg (ct h43 hg27) (g1 51 (jb (!r_32)) (rf (jb r_32)) fun h52=>zg (ct h40 hg24) (g2 43 52 (jb (!r_32)) (ct h43 hg27) h52 fun h53=>g2 40 53 (jb (!r_32)) (ct h40 hg24) h53 fun h54=>gz [(1,_),(2,_),(3,_),(54,_)] ⟨h1,h2,h3,h54⟩ ?_))))
       rintro s ⟨h1,h2,h3,h54⟩
       exact UM H x_1 x_12 (xn F x_1 k) ih (!r_32) _ ⟨h1,h2,h3,h54⟩ h
     iterate 9 refine z9 (ct h43 hg27) ?_
     refine zg (ct h40 hg24) (g2 43 52 (jb false) (ct h43 hg27) (rf (.tup [])) fun h53=>g2 40 53 (jb false) (ct h40 hg24) h53 fun h54=>gz [(1,_),(2,_),(3,_),(54,_)] ⟨h1,h2,h3,h54⟩ ?_)
     rintro s ⟨h1,h2,h3,h54⟩
     exact UM H x_1 x_12 (xn F x_1 k) ih false _ ⟨h1,h2,h3,h54⟩ h
   refine .exit (.esq (.elp (.ebk (.nsq (.seq (rg (g1 1 (.ref (.bx 1) 0 [0] (ji x_1.1)) h1 fun h55=>g1 55 (ji x_1.1) h55 fun h56=>?_)))))))
   obtain ⟨r_33,E_r_33,h⟩:=bind_some h
   refine zF (m:=0) (al:=false) (r:=Enc.enc (r_33:Bool)) [Enc.enc (x_1.1:Int),Enc.enc (0:Int),Enc.enc (8:Int)] (ze (v:=ji x_1.1) h56 rfl rfl (ze (v:=ji 0) rfl rfl rfl (ze (v:=ji 8) rfl rfl rfl zx))) (H.c47 _ _ _ _ E_r_33) H.g47 rfl rfl rfl rfl (gm (rf (jb r_33)) fun h2=>gq (.nsq (.ret ?_)))
   have hr:=Option.some.inj h
   subst hr
   exact rrA (zn h2) rfl
def uk (F:Nat) (x_1:GR):Option Bool:=
 xn F x_1 F 0
theorem t22 (H:H22 D σ F) (x_1:GR) (s:Nat→V) (hs:zl [(0,gV x_1)] s) (h:uk F x_1=some r):Run D σ (R22 r) (.run A22 []) s:=by
 unfold uk at h
 have h0:=hs
 refine .seq (zq (zS ?_))
 refine ez [(0,_),(1,_)] ⟨za h0 rfl mIE,zc rfl⟩ ?_
 rintro s ⟨h0,h1⟩
 refine xz (gV x_1) (zw h0 rfl) h1 rfl (g0 (jb false) fun h2=>gq (.nsq (.seq (.seq (rg (g0 (ji 0) fun h3=>gq (.nsq (.block (.loop ?_)))))))))
 exact zhf H x_1 F 0 _ ⟨rfl,h2,h3⟩ h
end
def e22 (F:Nat):Ent:=ent 22 (fun (x:(GR×Unit))=>uk F x.1) (fun (r:Bool)=>(Enc.enc (r:Bool))) 0 false []
abbrev C22 (D:List V→Option V) (F:Nat):Prop:=∀ (x0:GR) r,uk F x0=some r→D [Enc.enc x0]=some (Enc.enc (r:Bool))
theorem p22 {F:Nat}:C22 (e22 F).den F:=fun x0 _ h=>zN (x0,()) h
theorem o22 {D:Den} {σ:Sig} {F:Nat} (hF:zy Try.prog D σ) (H:H22 D σ F):(e22 F).Ok Try.prog:=by
 refine yl (f:=22) (show unk 22=22 from rfl) (fun args r h=>?_) ⟨Try.f22,Try.func22,rfl,rfl⟩
 obtain ⟨⟨x0,_⟩,y,rfl,hy,rfl⟩:=zM h
 exact zm hF (by kernel_rfl) Try.func22 rfl c22 (show 1≤Try.f22.ntmps by decide) (t22 H x0 _ rfl hy)
def zor:AC:=(.cond (.t 10) .skip (.exit 0))
def zpG:AC:=(.cond (.t 17) (.reg [.clr [20,21]] [jm 18 5,jm 19 6,jx 20 (.lit i0 1 [(0,0,.t 19)]),jx 21 (.app .s (.t 18) (.t 20)),jm 5 21] [.home 21 5]) .skip)
def zkM:AC:=(.reg [] [jm 11 6,jv 12 (.bin .add (.t 11) (jn 1)),jm 6 12] [])
def zq1:AC:=(.seq (.block 1 (.seq (.reg [] [jm 13 1,jm 14 6,jv 15 (.bin .shr (.t 13) (.t 14)),jv 16 (.bin .and (.t 15) (jn 1)),jv 17 (.bin .eql (.t 16) (jn 1))] []) zpG)) zkM)
def NS:AC:=(.seq (.seq (.reg [] [jm 8 6,jm 9 0,jv 10 (.bin .lss (.t 8) (.t 9))] []) zor) zq1)
def zeL:AC:=(.seq (.reg [] [jm 22 5,jm 4 22] [.home 5 4]) .ret)
def zo8:AC:=(.block 0 (.loop NS))
def zps:AC:=(.seq (.seq (.reg [] [jv 6 (.mov (jn 0))] []) zo8) zeL)
def zrs:AC:=(.seq (.reg [.clr [7]] [jx 7 (.lit i0 0 []),jm 5 7] [.home 7 5]) zps)
def A32:AC:=(.seq (.reg [] [jv 4 (.mov (.k (.sl .nl .s 0 [])))] []) zrs)
def zt7:List An:=[⟨1,[.clr [7]],[],[],[.home 7 5]⟩,⟨6,[.clr [20,21]],[],[],[.home 21 5]⟩,⟨7,[],[],[],[.home 5 4]⟩]
theorem c32:cC Try.prog Try.f32.ntmps zt7 (Try.f32.body.getD .skip)=some A32:=by kernel_rfl
structure H32 (D:Den) (σ:Sig) (F:Nat):Prop where
 mk ::
abbrev R32 (r:LI):(Nat→V)→Prop:=RR Try.prog [.tmp 4] 0 false (eL r)
section
variable {D:Den} {σ:Sig} {F:Nat} {r:LI}
def YY (F:Nat) (x_1:Int) (x_2:Int) (x_8:Int) (c1:LI→Int→Option LI) (x_15:LI):Option LI:=
 c1 x_15 (w64 (x_8 + 1))
theorem zcx (H:H32 D σ F) (x_1:Int) (x_2:Int) (x_8:Int) (c1:LI→Int→Option LI) (Hc1:∀ (x_7:LI) (x_8:Int) (s:Nat→V),zl [(0,ji x_1),(1,ji x_2),(4,nI),(5,oI 5 [] (.of x_7)),(6,ji x_8)] s→c1 x_7 x_8=some r→Run D σ (R32 r) (.run NS [.lp NS,.bk 0,.sq zeL]) s) (x_15:LI) (s:Nat→V) (hs:zl [(0,ji x_1),(1,ji x_2),(4,nI),(5,oI 5 [] (.of x_15)),(6,ji x_8)] s) (h:YY F x_1 x_2 x_8 c1 x_15=some r):Run D σ (R32 r) (.nrm [.bk 1,.sq zkM,.lp NS,.bk 0,.sq zeL]) s:=by
 unfold YY at h
 obtain ⟨h0,h1,h4,h5,h6⟩:=hs
 refine .nbk (.nsq (rg (gm h6 fun h11=>g1 11 (ji (w64 (x_8 + 1))) h11 fun h12=>gm h12 fun h6=>gq (.nlp ?_))))
 exact Hc1 x_15 (w64 (x_8 + 1)) _ ⟨h0,h1,h4,h5,h6⟩ h
def w5 (F:Nat) (x_1:Int) (x_2:Int) :Nat→LI→Int→Option LI
 | 0,_,_=>none
 | k + 1,x_7,x_8=>
   bif decide (x_8 < x_1) then
    (Wn .i64 x_2 x_8).bind fun q_13=>
    bif ((yf .i64 q_13 1) == 1) then
     (wS x_7 [x_8]).bind fun ap_16=>
     YY F x_1 x_2 x_8 (w5 F x_1 x_2 k) ap_16
    else
     YY F x_1 x_2 x_8 (w5 F x_1 x_2 k) x_7
   else
    some x_7
theorem zie (H:H32 D σ F) (x_1:Int) (x_2:Int) :∀ (k:Nat) (x_7:LI) (x_8:Int) (s:Nat→V),zl [(0,ji x_1),(1,ji x_2),(4,nI),(5,oI 5 [] (.of x_7)),(6,ji x_8)] s→w5 F x_1 x_2 k x_7 x_8=some r→Run D σ (R32 r) (.run NS [.lp NS,.bk 0,.sq zeL]) s:=by
 intro k
 induction k with
 | zero=>intro x_7 x_8 s _ h;exact nm h
 | succ k ih=>
   intro x_7 x_8 s hs h
   rw [w5] at h
   obtain ⟨h0,h1,h4,h5,h6⟩:=hs
   refine .seq (.seq (rg (gm h6 fun h8=>gm h0 fun h9=>g2 8 9 (jb (decide (x_8 < x_1))) h8 h9 fun h10=>gq (.nsq (zk (t:=decide (x_8 < x_1)) h10 h (fun h=>?_) (fun h=>?_))))))
   · refine .skip (.nsq (.seq (.block (.seq (rg (gm h1 fun h13=>gm h6 fun h14=>?_))))))
     obtain ⟨q_13,E_q_13,h⟩:=bind_some h
     refine gv (ji q_13) (YE h13 h14 E_q_13) fun h15=>g1 15 (ji (yf .i64 q_13 1)) h15 fun h16=>g1 16 (jb ((yf .i64 q_13 1) == 1)) h16 fun h17=>gq (.nsq (zk (t:=((yf .i64 q_13 1) == 1)) h17 h (fun h=>?_) (fun h=>?_)))
     · refine zq (zS ?_)
       refine ez [(0,_),(1,_),(4,_),(5,_),(6,_),(20,_),(21,_)] ⟨za h0 rfl mi,za h1 rfl mi,za h4 rfl rfl,za h5 rfl (zj (r:=5) (p:=[]) rfl rfl),za h6 rfl mi,zc rfl,zc rfl⟩ ?_
       rintro s ⟨h0,h1,h4,h5,h6,h20,h21⟩
       refine gm h5 fun h18=>gm h6 fun h19=>xT [(19,ji x_8)] [Enc.enc (x_8:Int)] h19 rfl rfl h20 ?_
       obtain ⟨ap_16,E_ap_16,h⟩:=bind_some h
       refine Xz (q:=5) (p:=[]) (o:=.of (x_7:LI)) (ys:=([x_8]:LI)) (t2:=.at 20 []) (lo2:=0) h18 rfl rfl h21 (ZJ (o:=.of (x_7:LI)) E_ap_16 trivial) (fun s_19 ha_19=>gm (rf (oI 21 [] (.of ap_16))) fun h5=>yQ (yC (r:=21) (x:=5) (v:=_) h5 rfl (fun s_20 hg_20=>?_)))
       refine ez [(0,ji x_1),(1,ji x_2),(4,nI),(5,oI 5 [] (.of ap_16)),(6,ji x_8)] ⟨hg_20 0 _ _ (show s_19 0=(ji x_1) from zJ ha_19 h0 mi) mi,hg_20 1 _ _ (show s_19 1=(ji x_2) from zJ ha_19 h1 mi) mi,hg_20 4 _ nI (show s_19 4=nI from zJ ha_19 h4 rfl) rfl,hg_20 5 _ _ h5 (zj (r:=21) (p:=[]) rfl rfl),hg_20 6 _ _ (show s_19 6=(ji x_8) from zJ ha_19 h6 mi) mi⟩ ?_
       rintro s ⟨h0,h1,h4,h5,h6⟩
       exact zcx H x_1 x_2 x_8 (w5 F x_1 x_2 k) ih ap_16 _ ⟨h0,h1,h4,h5,h6⟩ h
     refine .skip ?_
     exact zcx H x_1 x_2 x_8 (w5 F x_1 x_2 k) ih x_7 _ ⟨h0,h1,h4,h5,h6⟩ h
   refine .exit (.esq (.elp (.ebk (.nsq (.seq (rg (gm h5 fun h22=>gm h22 fun h4=>yQ (yC (r:=5) (x:=4) (v:=_) h4 rfl (fun s_21 hg_21=>?_)))))))))
   refine ez [(4,oI 4 [] (.of x_7))] (hg_21 4 _ _ h4 (zj (r:=5) (p:=[]) rfl rfl)) ?_
   rintro s h4
   refine .nsq (.ret ?_)
   have hr:=Option.some.inj h
   subst hr
   exact rrA (zn h4) (vh (vA (o:=.of x_7)) (xB rfl))
def Zx (F:Nat) (x_1:Int) (x_2:Int):Option LI:=
 w5 F x_1 x_2 F [] 0
theorem t32 (H:H32 D σ F) (x_1:Int) (x_2:Int) (s:Nat→V) (hs:zl [(0,ji x_1),(1,ji x_2)] s) (h:Zx F x_1 x_2=some r):Run D σ (R32 r) (.run A32 []) s:=by
 unfold Zx at h
 obtain ⟨h0,h1⟩:=hs
 refine .seq (rg (g0 nI fun h4=>gq (.nsq (.seq (zq (zS ?_))))))
 refine ez [(0,_),(1,_),(4,_),(7,_)] ⟨za h0 rfl mi,za h1 rfl mi,za h4 rfl rfl,zc rfl⟩ ?_
 rintro s ⟨h0,h1,h4,h7⟩
 refine xT [] [] trivial rfl rfl h7 (gm (rf (oI 7 [] (.of []))) fun h5=>yQ (yC (r:=7) (x:=5) (v:=_) h5 rfl (fun s_2 hg_2=>?_)))
 refine ez [(0,ji x_1),(1,ji x_2),(4,nI),(5,oI 5 [] (.of []))] ⟨hg_2 0 _ _ h0 mi,hg_2 1 _ _ h1 mi,hg_2 4 _ _ h4 rfl,hg_2 5 _ _ h5 (zj (r:=7) (p:=[]) rfl rfl)⟩ ?_
 rintro s ⟨h0,h1,h4,h5⟩
 refine .nsq (.seq (.seq (rg (g0 (ji 0) fun h6=>gq (.nsq (.block (.loop ?_)))))))
 exact zie H x_1 x_2 F [] 0 _ ⟨h0,h1,h4,h5,h6⟩ h
end
def e32 (F:Nat):Ent:=ent 32 (fun (x:(Int×Int×Unit))=>Zx F x.1 x.2.1) (fun (r:LI)=>(eL r)) 0 false []
abbrev C32 (D:List V→Option V) (F:Nat):Prop:=∀ (x0:Int) (x1:Int) r,Zx F x0 x1=some r→D [Enc.enc x0,Enc.enc x1]=some (eL r)
theorem p32 {F:Nat}:C32 (e32 F).den F:=fun x0 x1 _ h=>zN (x0,x1,()) h
theorem o32 {D:Den} {σ:Sig} {F:Nat} (hF:zy Try.prog D σ) (H:H32 D σ F):(e32 F).Ok Try.prog:=by
 refine yl (f:=32) (show unk 32=32 from rfl) (fun args r h=>?_) ⟨Try.f32,Try.func32,rfl,rfl⟩
 obtain ⟨⟨x0,x1,_⟩,y,rfl,hy,rfl⟩:=zM h
 exact zm hF (by kernel_rfl) Try.func32 rfl c32 (show 2≤Try.f32.ntmps by decide) (t32 H x0 x1 _ ⟨rfl,rfl⟩ hy)
def zof:AC:=(.cond (.t 9) .skip (.exit 0))
def zpV:AC:=(.cond (.t 17) (.seq (.reg [] [jv 4 (.mov kt)] []) .ret) .skip)
def zn7:AC:=(.reg [] [jm 10 5,jv 11 (.bin .add (.t 10) (jn 1)),jm 5 11] [])
def zsi:AC:=(.seq (.block 1 (.seq (.reg [] [jm 12 0,jm 13 5,jv 14 (.idx (.t 12) (.t 13) 1),jv 15 (.load .s (.t 14)),jm 16 1,jv 17 (.bin .eql (.t 15) (.t 16))] []) zpV)) zn7)
def ziJ:AC:=(.seq (.seq (.reg [] [jm 6 5,jm 7 0,jv 8 (.len (.t 7)),jv 9 (.bin .lss (.t 6) (.t 8))] []) zof) zsi)
def zla:AC:=(.seq (.reg [] [jv 4 (.mov kf)] []) .ret)
def zrR:AC:=(.block 0 (.loop ziJ))
def zoU:AC:=(.seq (.seq (.reg [] [jv 5 (.mov (jn 0))] []) zrR) zla)
def A52:AC:=(.seq (.reg [] [jv 4 (.mov kf)] []) zoU)
def zuL:List An:=[]
theorem c52:cC Try.prog Try.f52.ntmps zuL (Try.f52.body.getD .skip)=some A52:=by kernel_rfl
structure H52 (D:Den) (σ:Sig) (F:Nat):Prop where
 mk ::
abbrev R52 (r:Bool):(Nat→V)→Prop:=RR Try.prog [.tmp 4] 0 false (Enc.enc (r:Bool))
section
variable {D:Den} {σ:Sig} {F:Nat} {r:Bool}
def ZK (F:Nat) (x_1:LI) (x_2:Int) :Nat→Int→Option Bool
 | 0,_=>none
 | k + 1,x_4=>
   bif decide (x_4 < (x_1.length:Int)) then
    (idx x_1 x_4).bind fun e_6=>
    bif (e_6 == x_2) then
     some true
    else
     (ZK F x_1 x_2 k) (w64 (x_4 + 1))
   else
    some false
theorem zh8 (H:H52 D σ F) (x_1:LI) (x_2:Int) :∀ (k:Nat) (x_4:Int) (s:Nat→V),zl [(0,eL x_1),(1,ji x_2),(4,jb false),(5,ji x_4)] s→ZK F x_1 x_2 k x_4=some r→Run D σ (R52 r) (.run ziJ [.lp ziJ,.bk 0,.sq zla]) s:=by
 intro k
 induction k with
 | zero=>intro x_4 s _ h;exact nm h
 | succ k ih=>
   intro x_4 s hs h
   rw [ZK] at h
   obtain ⟨h0,h1,h4,h5⟩:=hs
   refine .seq (.seq (rg (gm h5 fun h6=>gm h0 fun h7=>gv (ji (x_1.length:Int)) (yu (xs:=x_1) h7) fun h8=>g2 6 8 (jb (decide (x_4 < (x_1.length:Int)))) h6 h8 fun h9=>gq (.nsq (zk (t:=decide (x_4 < (x_1.length:Int))) h9 h (fun h=>?_) (fun h=>?_))))))
   · refine .skip (.nsq (.seq (.block (.seq (rg (gm h0 fun h12=>gm h5 fun h13=>?_))))))
     obtain ⟨e_6,E_e_6,h⟩:=bind_some h
     refine gv (.ref .sh 0 [] (ji e_6)) (yz (t:=.sh) (lo:=0) (xs:=x_1) h12 h13 E_e_6 rfl rfl) fun h14=>g1 14 (ji e_6) h14 fun h15=>gm h1 fun h16=>g2 15 16 (jb (e_6 == x_2)) h15 h16 fun h17=>gq (.nsq (zk (t:=(e_6 == x_2)) h17 h (fun h=>?_) (fun h=>?_)))
     · refine .seq (rg (g0 (jb true) fun h4=>gq (.nsq (.ret ?_))))
       have hr:=Option.some.inj h
       subst hr
       exact rrA (zn h4) rfl
     refine .skip (.nbk (.nsq (rg (gm h5 fun h10=>g1 10 (ji (w64 (x_4 + 1))) h10 fun h11=>gm h11 fun h5=>gq (.nlp ?_)))))
     exact ih (w64 (x_4 + 1)) _ ⟨h0,h1,h4,h5⟩ h
   refine .exit (.esq (.elp (.ebk (.nsq (.seq (rg (g0 (jb false) fun h4=>gq (.nsq (.ret ?_)))))))))
   have hr:=Option.some.inj h
   subst hr
   exact rrA (zn h4) rfl
def wC (F:Nat) (x_1:LI) (x_2:Int):Option Bool:=
 ZK F x_1 x_2 F 0
theorem t52 (H:H52 D σ F) (x_1:LI) (x_2:Int) (s:Nat→V) (hs:zl [(0,eL x_1),(1,ji x_2)] s) (h:wC F x_1 x_2=some r):Run D σ (R52 r) (.run A52 []) s:=by
 unfold wC at h
 obtain ⟨h0,h1⟩:=hs
 refine .seq (rg (g0 (jb false) fun h4=>gq (.nsq (.seq (.seq (rg (g0 (ji 0) fun h5=>gq (.nsq (.block (.loop ?_))))))))))
 exact zh8 H x_1 x_2 F 0 _ ⟨h0,h1,h4,h5⟩ h
end
def e52 (F:Nat):Ent:=ent 52 (fun (x:(LI×Int×Unit))=>wC F x.1 x.2.1) (fun (r:Bool)=>(Enc.enc (r:Bool))) 0 false []
abbrev C52 (D:List V→Option V) (F:Nat):Prop:=∀ (x0:LI) (x1:Int) r,wC F x0 x1=some r→D [Enc.enc x0,Enc.enc x1]=some (Enc.enc (r:Bool))
theorem p52 {F:Nat}:C52 (e52 F).den F:=fun x0 x1 _ h=>zN (x0,x1,()) h
theorem o52 {D:Den} {σ:Sig} {F:Nat} (hF:zy Try.prog D σ) (H:H52 D σ F):(e52 F).Ok Try.prog:=by
 refine yl (f:=52) (show unk 52=52 from rfl) (fun args r h=>?_) ⟨Try.f52,Try.func52,rfl,rfl⟩
 obtain ⟨⟨x0,x1,_⟩,y,rfl,hy,rfl⟩:=zM h
 exact zm hF (by kernel_rfl) Try.func52 rfl c52 (show 2≤Try.f52.ntmps by decide) (t52 H x0 x1 _ ⟨rfl,rfl⟩ hy)
def zsK:AC:=(.cond (.t 11) .skip (.exit 0))
def zpt:AC:=(.cond (.t 17) (.reg [.clr [20,21]] [jm 18 5,jm 19 6,jx 20 (.lit i0 1 [(0,0,.t 19)]),jx 21 (.app .s (.t 18) (.t 20)),jm 5 21] [.home 21 5]) .skip)
def zkI:AC:=(.reg [] [jm 12 6,jv 13 (.bin .add (.t 12) (jn 1)),jm 6 13] [])
def zpc:AC:=(.seq (.block 1 (.seq (.reg [] [jv 14 (.load (.ag [.s,.p]) (.t 2)),jm 15 1,jm 16 6,jx 17 (.call (jf 57) [.t 14,.t 15,.t 16])] []) zpt)) zkI)
def NZ:AC:=(.seq (.seq (.reg [] [jm 8 6,jv 9 (.fld (.t 2) 0 0),jv 10 (.load .s (.t 9)),jv 11 (.bin .lss (.t 8) (.t 10))] []) zsK) zpc)
def zd6:AC:=(.seq (.reg [] [jm 22 5,jm 4 22] [.home 5 4]) .ret)
def zrN:AC:=(.block 0 (.loop NZ))
def zoV:AC:=(.seq (.seq (.reg [] [jv 6 (.mov (jn 0))] []) zrN) zd6)
def zs9:AC:=(.seq (.reg [.clr [7]] [jx 7 (.lit i0 0 []),jm 5 7] [.home 7 5]) zoV)
def A60:AC:=(.seq (.reg [.clr [2]] [jx 2 (.box (.t 0)),jv 4 (.mov (.k (.sl .nl .s 0 [])))] []) zs9)
def zux:List An:=[⟨0,[.clr [2]],[],[],[]⟩,⟨1,[.clr [7]],[],[],[.home 7 5]⟩,⟨6,[.clr [20,21]],[],[],[.home 21 5]⟩,⟨7,[],[],[],[.home 5 4]⟩]
theorem c60:cC Try.prog Try.f60.ntmps zux (Try.f60.body.getD .skip)=some A60:=by kernel_rfl
structure H60 (D:Den) (σ:Sig) (F:Nat):Prop where
 c57:C57 (D 57) F
 g57:σ 57=some (0,false)
abbrev R60 (r:LI):(Nat→V)→Prop:=RR Try.prog [.tmp 4] 0 false (eL r)
section
variable {D:Den} {σ:Sig} {F:Nat} {r:LI}
def vd (F:Nat) (x_2:Int) (x_1:GR) (x_8:Int) (c1:LI→Int→Option LI) (x_15:LI):Option LI:=
 c1 x_15 (w64 (x_8 + 1))
theorem zch (H:H60 D σ F) (x_2:Int) (x_1:GR) (x_8:Int) (c1:LI→Int→Option LI) (Hc1:∀ (x_7:LI) (x_8:Int) (s:Nat→V),zl [(1,ji x_2),(2,bG 2 x_1),(4,nI),(5,oI 5 [] (.of x_7)),(6,ji x_8)] s→c1 x_7 x_8=some r→Run D σ (R60 r) (.run NZ [.lp NZ,.bk 0,.sq zd6]) s) (x_15:LI) (s:Nat→V) (hs:zl [(1,ji x_2),(2,bG 2 x_1),(4,nI),(5,oI 5 [] (.of x_15)),(6,ji x_8)] s) (h:vd F x_2 x_1 x_8 c1 x_15=some r):Run D σ (R60 r) (.nrm [.bk 1,.sq zkI,.lp NZ,.bk 0,.sq zd6]) s:=by
 unfold vd at h
 obtain ⟨h1,h2,h4,h5,h6⟩:=hs
 refine .nbk (.nsq (rg (gm h6 fun h12=>g1 12 (ji (w64 (x_8 + 1))) h12 fun h13=>gm h13 fun h6=>gq (.nlp ?_))))
 exact Hc1 x_15 (w64 (x_8 + 1)) _ ⟨h1,h2,h4,h5,h6⟩ h
def yN (F:Nat) (x_2:Int) (x_1:GR) :Nat→LI→Int→Option LI
 | 0,_,_=>none
 | k + 1,x_7,x_8=>
   bif decide (x_8 < x_1.1) then
    (uo F x_1 x_2 x_8).bind fun r_13=>
    bif r_13 then
     (wS x_7 [x_8]).bind fun ap_16=>
     vd F x_2 x_1 x_8 (yN F x_2 x_1 k) ap_16
    else
     vd F x_2 x_1 x_8 (yN F x_2 x_1 k) x_7
   else
    some x_7
theorem ziP (H:H60 D σ F) (x_2:Int) (x_1:GR) :∀ (k:Nat) (x_7:LI) (x_8:Int) (s:Nat→V),zl [(1,ji x_2),(2,bG 2 x_1),(4,nI),(5,oI 5 [] (.of x_7)),(6,ji x_8)] s→yN F x_2 x_1 k x_7 x_8=some r→Run D σ (R60 r) (.run NZ [.lp NZ,.bk 0,.sq zd6]) s:=by
 intro k
 induction k with
 | zero=>intro x_7 x_8 s _ h;exact nm h
 | succ k ih=>
   intro x_7 x_8 s hs h
   rw [yN] at h
   obtain ⟨h1,h2,h4,h5,h6⟩:=hs
   refine .seq (.seq (rg (gm h6 fun h8=>g1 2 (.ref (.bx 2) 0 [0] (ji x_1.1)) h2 fun h9=>g1 9 (ji x_1.1) h9 fun h10=>g2 8 10 (jb (decide (x_8 < x_1.1))) h8 h10 fun h11=>gq (.nsq (zk (t:=decide (x_8 < x_1.1)) h11 h (fun h=>?_) (fun h=>?_))))))
   · refine .skip (.nsq (.seq (.block (.seq (rg (g1 2 (gV x_1) h2 fun h14=>gm h1 fun h15=>gm h6 fun h16=>?_))))))
     obtain ⟨r_13,E_r_13,h⟩:=bind_some h
     refine zF (m:=0) (al:=false) (r:=Enc.enc (r_13:Bool)) [Enc.enc (x_1:GR),Enc.enc (x_2:Int),Enc.enc (x_8:Int)] (ze (v:=gV x_1) h14 rfl (Enc.erase_enc (x_1:GR)) (ze (v:=ji x_2) h15 rfl rfl (ze (v:=ji x_8) h16 rfl rfl zx))) (H.c57 _ _ _ _ E_r_13) H.g57 rfl rfl rfl rfl (gq (.nsq (zk (t:=r_13) rfl h (fun h=>?_) (fun h=>?_))))
     · refine zq (zS ?_)
       refine ez [(1,_),(2,_),(4,_),(5,_),(6,_),(20,_),(21,_)] ⟨za h1 rfl mi,za h2 rfl (zf rfl mIE),za h4 rfl rfl,za h5 rfl (zj (r:=5) (p:=[]) rfl rfl),za h6 rfl mi,zc rfl,zc rfl⟩ ?_
       rintro s ⟨h1,h2,h4,h5,h6,h20,h21⟩
       refine gm h5 fun h18=>gm h6 fun h19=>xT [(19,ji x_8)] [Enc.enc (x_8:Int)] h19 rfl rfl h20 ?_
       obtain ⟨ap_16,E_ap_16,h⟩:=bind_some h
       refine Xz (q:=5) (p:=[]) (o:=.of (x_7:LI)) (ys:=([x_8]:LI)) (t2:=.at 20 []) (lo2:=0) h18 rfl rfl h21 (ZJ (o:=.of (x_7:LI)) E_ap_16 trivial) (fun s_20 ha_20=>gm (rf (oI 21 [] (.of ap_16))) fun h5=>yQ (yC (r:=21) (x:=5) (v:=_) h5 rfl (fun s_21 hg_21=>?_)))
       refine ez [(1,ji x_2),(2,bG 2 x_1),(4,nI),(5,oI 5 [] (.of ap_16)),(6,ji x_8)] ⟨hg_21 1 _ _ (show s_20 1=(ji x_2) from zJ ha_20 h1 mi) mi,hg_21 2 _ _ (show s_20 2=(bG 2 x_1) from zJ ha_20 h2 (zf rfl mIE)) (zf rfl mIE),hg_21 4 _ nI (show s_20 4=nI from zJ ha_20 h4 rfl) rfl,hg_21 5 _ _ h5 (zj (r:=21) (p:=[]) rfl rfl),hg_21 6 _ _ (show s_20 6=(ji x_8) from zJ ha_20 h6 mi) mi⟩ ?_
       rintro s ⟨h1,h2,h4,h5,h6⟩
       exact zch H x_2 x_1 x_8 (yN F x_2 x_1 k) ih ap_16 _ ⟨h1,h2,h4,h5,h6⟩ h
     refine .skip ?_
     exact zch H x_2 x_1 x_8 (yN F x_2 x_1 k) ih x_7 _ ⟨h1,h2,h4,h5,h6⟩ h
   refine .exit (.esq (.elp (.ebk (.nsq (.seq (rg (gm h5 fun h22=>gm h22 fun h4=>yQ (yC (r:=5) (x:=4) (v:=_) h4 rfl (fun s_22 hg_22=>?_)))))))))
   refine ez [(4,oI 4 [] (.of x_7))] (hg_22 4 _ _ h4 (zj (r:=5) (p:=[]) rfl rfl)) ?_
   rintro s h4
   refine .nsq (.ret ?_)
   have hr:=Option.some.inj h
   subst hr
   exact rrA (zn h4) (vh (vA (o:=.of x_7)) (xB rfl))
def xU (F:Nat) (x_1:GR) (x_2:Int):Option LI:=
 yN F x_2 x_1 F [] 0
theorem t60 (H:H60 D σ F) (x_1:GR) (x_2:Int) (s:Nat→V) (hs:zl [(0,gV x_1),(1,ji x_2)] s) (h:xU F x_1 x_2=some r):Run D σ (R60 r) (.run A60 []) s:=by
 unfold xU at h
 obtain ⟨h0,h1⟩:=hs
 refine .seq (zq (zS ?_))
 refine ez [(0,_),(1,_),(2,_)] ⟨za h0 rfl mIE,za h1 rfl mi,zc rfl⟩ ?_
 rintro s ⟨h0,h1,h2⟩
 refine xz (gV x_1) (zw h0 rfl) h2 rfl (g0 nI fun h4=>gq (.nsq (.seq (zq (zS ?_)))))
 refine ez [(1,_),(2,_),(4,_),(7,_)] ⟨za h1 rfl mi,za rfl rfl (zf rfl mIE),za h4 rfl rfl,zc rfl⟩ ?_
 rintro s ⟨h1,h2,h4,h7⟩
 refine xT [] [] trivial rfl rfl h7 (gm (rf (oI 7 [] (.of []))) fun h5=>yQ (yC (r:=7) (x:=5) (v:=_) h5 rfl (fun s_3 hg_3=>?_)))
 refine ez [(1,ji x_2),(2,bG 2 x_1),(4,nI),(5,oI 5 [] (.of []))] ⟨hg_3 1 _ _ h1 mi,hg_3 2 _ _ h2 (zf rfl mIE),hg_3 4 _ _ h4 rfl,hg_3 5 _ _ h5 (zj (r:=7) (p:=[]) rfl rfl)⟩ ?_
 rintro s ⟨h1,h2,h4,h5⟩
 refine .nsq (.seq (.seq (rg (g0 (ji 0) fun h6=>gq (.nsq (.block (.loop ?_)))))))
 exact ziP H x_2 x_1 F [] 0 _ ⟨h1,h2,h4,h5,h6⟩ h
end
def e60 (F:Nat):Ent:=ent 60 (fun (x:(GR×Int×Unit))=>xU F x.1 x.2.1) (fun (r:LI)=>(eL r)) 0 false []
abbrev C60 (D:List V→Option V) (F:Nat):Prop:=∀ (x0:GR) (x1:Int) r,xU F x0 x1=some r→D [Enc.enc x0,Enc.enc x1]=some (eL r)
theorem p60 {F:Nat}:C60 (e60 F).den F:=fun x0 x1 _ h=>zN (x0,x1,()) h
theorem o60 {D:Den} {σ:Sig} {F:Nat} (hF:zy Try.prog D σ) (H:H60 D σ F):(e60 F).Ok Try.prog:=by
 refine yl (f:=60) (show unk 60=60 from rfl) (fun args r h=>?_) ⟨Try.f60,Try.func60,rfl,rfl⟩
 obtain ⟨⟨x0,x1,_⟩,y,rfl,hy,rfl⟩:=zM h
 exact zm hF (by kernel_rfl) Try.func60 rfl c60 (show 2≤Try.f60.ntmps by decide) (t60 H x0 x1 _ ⟨rfl,rfl⟩ hy)
def zhM:AC:=(.cond (.t 31) (.seq (.reg [] [jm 32 0,jm 4 32] []) .ret) .skip)
def zhw:AC:=(.seq (.reg [.clr [33,37,39,40,44]] [jy 33 (.lit i0 0 []),jm 34 0,jm 35 5,jv 36 (.slice (.t 34) none (some (.t 35)) 1),jy 37 (.appS .s (.t 33) (.t 36)),jm 38 1,jx 39 (.lit i0 1 [(0,0,.t 38)]),jy 40 (.appS .s (.t 37) (.t 39)),jm 41 0,jm 42 5,jv 43 (.slice (.t 41) (some (.t 42)) none 1),jx 44 (.appS .s (.t 40) (.t 43)),jm 4 44] [.home 44 4]) .ret)
def zhG:AC:=(.cond (.t 17) .skip (.exit 0))
def zja:AC:=(.block 1 (.reg [] [jm 18 5,jv 19 (.bin .add (.t 18) (jn 1)),jm 5 19] []))
def Kt:AC:=(.seq (.seq (.reg [] [jm 6 5,jm 7 0,jv 8 (.len (.t 7)),jv 9 (.bin .lss (.t 6) (.t 8)),jm 10 9,jg 11 10 true (.mov (.t 0)),jg 12 10 true (.mov (.t 5)),jg 13 10 true (.idx (.t 11) (.t 12) 1),jg 14 10 true (.load .s (.t 13)),jg 15 10 true (.mov (.t 1)),jg 16 10 true (.bin .lss (.t 14) (.t 15)),jv 17 (.pick (.t 10) (.t 16) kf)] []) zhG) zja)
def zbc:AC:=(.seq (.seq (.reg [] [jm 20 5,jm 21 0,jv 22 (.len (.t 21)),jv 23 (.bin .lss (.t 20) (.t 22)),jm 24 23,jg 25 24 true (.mov (.t 0)),jg 26 24 true (.mov (.t 5)),jg 27 24 true (.idx (.t 25) (.t 26) 1),jg 28 24 true (.load .s (.t 27)),jg 29 24 true (.mov (.t 1)),jg 30 24 true (.bin .eql (.t 28) (.t 29)),jv 31 (.pick (.t 24) (.t 30) kf)] []) zhM) zhw)
def zme:AC:=(.seq (.block 0 (.loop Kt)) zbc)
def zmH:AC:=(.seq (.reg [] [jv 5 (.mov (jn 0))] []) zme)
def zry:AC:=(.seq (.reg [] [jv 4 (.mov (.k (.sl .nl .s 0 [])))] [.home zH 0]) zmH)
def zr4:List An:=[⟨0,[],[],[],[.home zH 0]⟩,⟨6,[.clr [33,37,39,40,44]],[0,4,7],[4,7,11],[.home 44 4]⟩]
theorem c74o:cC Try.prog Try.f74.ntmps zr4 (Try.f74.body.getD .skip)=some zry:=by kernel_rfl
structure ziL (D:Den) (σ:Sig) (F:Nat):Prop where
 mk ::
abbrev ziu (r:(NL Int)):(Nat→V)→Prop:=RR Try.prog [.tmp 4] 1 false (zi .sh (r:NL Int))
section
variable {D:Den} {σ:Sig} {F:Nat} {r:(NL Int)}
def Zg (F:Nat) (x_1:(On Int)) (x_2:Int) (x_6:Int)  (x_13:Bool):Option (NL Int):=
 bif x_13 then
  some x_1.v
 else
  (zf9 x_1.v).bind fun li_14=>
  (sub li_14 0 x_6).bind fun sub_15=>
  (wS [] sub_15).bind fun ap_16=>
  (wS ap_16 [x_2]).bind fun ap_17=>
  (sub li_14 x_6 (li_14.length:Int)).bind fun sub_18=>
  (wS ap_17 sub_18).bind fun ap_19=>
  some (.of ap_19)
theorem Qa (H:ziL D σ F) (x_1:(On Int)) (x_2:Int) (x_6:Int)  (x_13:Bool) (s:Nat→V) (hs:zl [(0,oI 0 [] x_1.v),(1,ji x_2),(4,nI),(5,ji x_6),(31,jb x_13)] s) (h:Zg F x_1 x_2 x_6  x_13=some r):Run D σ (ziu r) (.nrm [.sq zhM,.sq zhw]) s:=by
 unfold Zg at h
 obtain ⟨h0,h1,h4,h5,h31⟩:=hs
 refine .nsq (zk (t:=x_13) h31 h (fun h=>?_) (fun h=>?_))
 · refine .seq (rg (gv (oI 0 [] x_1.v) (wa h0 yI) fun h32=>gv (oI 0 [] x_1.v) (wa h32 yI) fun h4=>gq (.nsq (.ret ?_))))
   have hr:=Option.some.inj h
   subst hr
   exact rrA (zn h4) (Z6 (Yj (o:=(x_1.v:NL Int))) rfl (xB rfl))
 refine .skip (.nsq (.seq (zq (zS ?_))))
 refine ez [(0,_),(1,_),(4,_),(5,_),(33,_),(37,_),(39,_),(40,_),(44,_)] ⟨za h0 rfl (zj (r:=0) (p:=[]) rfl rfl),za h1 rfl mi,za h4 rfl rfl,za h5 rfl mi,zc rfl,zc rfl,zc rfl,zc rfl,zc rfl⟩ ?_
 rintro s ⟨h0,h1,h4,h5,h33,h37,h39,h40,h44⟩
 refine zas [] [] trivial rfl rfl h33 (gv (oI 0 [] x_1.v) (wa h0 yI) fun h34=>gm h5 fun h35=>?_)
 obtain ⟨li_14,E_li_14,h⟩:=bind_some h
 obtain ⟨sub_15,E_sub_15,h⟩:=bind_some h
 refine gv (.sl (.at 0 []) (Enc.shp Int) (Int.toNat 0) ((sub_15:LI).map Enc.enc)) (US (xs:=li_14) (NJ E_li_14 h34) (Xt) (Xx h35) E_sub_15 rfl) fun h36=>?_
 obtain ⟨ap_16,E_ap_16,h⟩:=bind_some h
 refine WY (p:=[]) (xs:=[]) (ys:=(sub_15:LI)) (t2:=.at 0 []) (lo2:=Int.toNat 0) rfl h36 rfl h37 rfl E_ap_16 (gm h1 fun h38=>xT [(38,ji x_2)] [Enc.enc (x_2:Int)] h38 rfl rfl h39 ?_)
 obtain ⟨ap_17,E_ap_17,h⟩:=bind_some h
 refine WY (p:=[]) (xs:=ap_16) (ys:=([x_2]:LI)) (t2:=.at 39 []) (lo2:=0) rfl rfl rfl h40 rfl E_ap_17 (gm (NJ E_li_14 h0) fun h41=>gm h5 fun h42=>?_)
 obtain ⟨sub_18,E_sub_18,h⟩:=bind_some h
 refine gv (.sl (.at 0 []) (Enc.shp Int) (Int.toNat x_6) ((sub_18:LI).map Enc.enc)) (US (xs:=li_14) h41 (Xx h42) (Xt) E_sub_18 rfl) fun h43=>?_
 obtain ⟨ap_19,E_ap_19,h⟩:=bind_some h
 refine WY (p:=[]) (xs:=ap_17) (ys:=(sub_18:LI)) (t2:=.at 0 []) (lo2:=Int.toNat x_6) rfl h43 rfl h44 rfl E_ap_19 (gm (rf (oI 44 [] (.of ap_19))) fun h4=>yQ (yC (r:=44) (x:=4) (v:=_) h4 rfl (fun s_3 hg_3=>?_)))
 refine ez [(4,oI 4 [] (.of ap_19))] (hg_3 4 _ _ h4 (zj (r:=44) (p:=[]) rfl rfl)) ?_
 rintro s h4
 refine .nsq (.ret ?_)
 have hr:=Option.some.inj h
 subst hr
 exact rrA (zn h4) (Z6 (Yj (o:=((.of ap_19):NL Int))) rfl (xB rfl))
def uW (F:Nat) (x_1:(On Int)) (x_2:Int) (x_6:Int) (c1:Int→Option (NL Int)) (x_11:Bool):Option (NL Int):=
 bif x_11 then
  c1 (w64 (x_6 + 1))
 else
  bif decide (x_6 < (x_1.v.list.length:Int)) then
   (idx x_1.v.list x_6).bind fun e_20=>
   Zg F x_1 x_2 x_6 (e_20 == x_2)
  else
   Zg F x_1 x_2 x_6 false
theorem NI (H:ziL D σ F) (x_1:(On Int)) (x_2:Int) (x_6:Int) (c1:Int→Option (NL Int)) (Hc1:∀ (x_6:Int) (s:Nat→V),zl [(0,oI 0 [] x_1.v),(1,ji x_2),(4,nI),(5,ji x_6)] s→c1 x_6=some r→Run D σ (ziu r) (.run Kt [.lp Kt,.bk 0,.sq zbc]) s) (x_11:Bool) (s:Nat→V) (hs:zl [(0,oI 0 [] x_1.v),(1,ji x_2),(4,nI),(5,ji x_6),(17,jb x_11)] s) (h:uW F x_1 x_2 x_6 c1 x_11=some r):Run D σ (ziu r) (.nrm [.sq zhG,.sq zja,.lp Kt,.bk 0,.sq zbc]) s:=by
 unfold uW at h
 obtain ⟨h0,h1,h4,h5,h17⟩:=hs
 refine .nsq (zk (t:=x_11) h17 h (fun h=>?_) (fun h=>?_))
 · refine .skip (.nsq (.block (rg (gm h5 fun h18=>g1 18 (ji (w64 (x_6 + 1))) h18 fun h19=>gm h19 fun h5=>gq (.nbk (.nlp ?_))))))
   exact Hc1 (w64 (x_6 + 1)) _ ⟨h0,h1,h4,h5⟩ h
 refine .exit (.esq (.elp (.ebk (.nsq (.seq (.seq (rg (gm h5 fun h20=>gv (oI 0 [] x_1.v) (wa h0 yI) fun h21=>gv (ji (x_1.v.list.length:Int)) (YH (o:=x_1.v) h21) fun h22=>g2 20 22 (jb (decide (x_6 < (x_1.v.list.length:Int)))) h20 h22 fun h23=>gm h23 fun h24=>zW (c:=decide (x_6 < (x_1.v.list.length:Int))) h (fun hg5 h=>?_) (fun hg5 h=>?_)))))))))
 · refine zg (ct h24 hg5) (gv (oI 0 [] x_1.v) (wa h0 yI) fun h25=>zg (ct h24 hg5) (gm h5 fun h26=>?_))
   obtain ⟨e_20,E_e_20,h⟩:=bind_some h
   refine zg (ct h24 hg5) (gv (.ref (.at 0 []) x_6.toNat [] (ji e_20)) (wE (o:=x_1.v) h25 h26 E_e_20 rfl) fun h27=>zg (ct h24 hg5) (g1 27 (ji e_20) h27 fun h28=>zg (ct h24 hg5) (gm h1 fun h29=>zg (ct h24 hg5) (g2 28 29 (jb (e_20 == x_2)) h28 h29 fun h30=>g2 24 30 (jb (e_20 == x_2)) (ct h24 hg5) h30 fun h31=>gq ?_))))
   exact Qa H x_1 x_2 x_6 (e_20 == x_2) _ ⟨h0,h1,h4,h5,h31⟩ h
 iterate 6 refine z9 (ct h24 hg5) ?_
 refine g2 24 30 (jb false) (ct h24 hg5) (rf (.tup [])) fun h31=>gq ?_
 exact Qa H x_1 x_2 x_6 false _ ⟨h0,h1,h4,h5,h31⟩ h
def wB (F:Nat) (x_1:(On Int)) (x_2:Int) :Nat→Int→Option (NL Int)
 | 0,_=>none
 | k + 1,x_6=>
   bif decide (x_6 < (x_1.v.list.length:Int)) then
    (idx x_1.v.list x_6).bind fun e_21=>
    uW F x_1 x_2 x_6 (wB F x_1 x_2 k) (decide (e_21 < x_2))
   else
    uW F x_1 x_2 x_6 (wB F x_1 x_2 k) false
theorem zfR (H:ziL D σ F) (x_1:(On Int)) (x_2:Int) :∀ (k:Nat) (x_6:Int) (s:Nat→V),zl [(0,oI 0 [] x_1.v),(1,ji x_2),(4,nI),(5,ji x_6)] s→wB F x_1 x_2 k x_6=some r→Run D σ (ziu r) (.run Kt [.lp Kt,.bk 0,.sq zbc]) s:=by
 intro k
 induction k with
 | zero=>intro x_6 s _ h;exact nm h
 | succ k ih=>
   intro x_6 s hs h
   rw [wB] at h
   obtain ⟨h0,h1,h4,h5⟩:=hs
   refine .seq (.seq (rg (gm h5 fun h6=>gv (oI 0 [] x_1.v) (wa h0 yI) fun h7=>gv (ji (x_1.v.list.length:Int)) (YH (o:=x_1.v) h7) fun h8=>g2 6 8 (jb (decide (x_6 < (x_1.v.list.length:Int)))) h6 h8 fun h9=>gm h9 fun h10=>zW (c:=decide (x_6 < (x_1.v.list.length:Int))) h (fun hg5 h=>?_) (fun hg5 h=>?_))))
   · refine zg (ct h10 hg5) (gv (oI 0 [] x_1.v) (wa h0 yI) fun h11=>zg (ct h10 hg5) (gm h5 fun h12=>?_))
     obtain ⟨e_21,E_e_21,h⟩:=bind_some h
     refine zg (ct h10 hg5) (gv (.ref (.at 0 []) x_6.toNat [] (ji e_21)) (wE (o:=x_1.v) h11 h12 E_e_21 rfl) fun h13=>zg (ct h10 hg5) (g1 13 (ji e_21) h13 fun h14=>zg (ct h10 hg5) (gm h1 fun h15=>zg (ct h10 hg5) (g2 14 15 (jb (decide (e_21 < x_2))) h14 h15 fun h16=>g2 10 16 (jb (decide (e_21 < x_2))) (ct h10 hg5) h16 fun h17=>gq ?_))))
     exact NI H x_1 x_2 x_6 (wB F x_1 x_2 k) ih (decide (e_21 < x_2)) _ ⟨h0,h1,h4,h5,h17⟩ h
   iterate 6 refine z9 (ct h10 hg5) ?_
   refine g2 10 16 (jb false) (ct h10 hg5) (rf (.tup [])) fun h17=>gq ?_
   exact NI H x_1 x_2 x_6 (wB F x_1 x_2 k) ih false _ ⟨h0,h1,h4,h5,h17⟩ h
def Xp (F:Nat) (x_1:(On Int)) (x_2:Int):Option (NL Int):=
 wB F x_1 x_2 F 0
theorem zuH (H:ziL D σ F) (x_1:(On Int)) (x_2:Int) (s:Nat→V) (hs:zl [(0,oI zH [] x_1.v),(1,ji x_2)] s) (h:Xp F x_1 x_2=some r):Run D σ (ziu r) (.run zry []) s:=by
 unfold Xp at h
 obtain ⟨h0,h1⟩:=hs
 refine .seq (rg (g0 nI fun h4=>yQ (yC (r:=zH) (x:=0) (v:=_) h0 yI (fun s_1 hg_1=>?_))))
 refine ez [(0,oI 0 [] x_1.v),(1,ji x_2),(4,nI)] ⟨hg_1 0 _ _ h0 (zj (r:=zH) (p:=[]) rfl rfl),hg_1 1 _ _ h1 mi,hg_1 4 _ _ h4 rfl⟩ ?_
 rintro s ⟨h0,h1,h4⟩
 refine .nsq (.seq (rg (g0 (ji 0) fun h5=>gq (.nsq (.seq (.block (.loop ?_)))))))
 exact zfR H x_1 x_2 F 0 _ ⟨h0,h1,h4,h5⟩ h
end
def zmg (F:Nat):Ent:=ent 1000000074 (fun (x:((On Int)×Int×Unit))=>Xp F x.1 x.2.1) (fun (r:(NL Int))=>(zi .sh (r:NL Int))) W7 false []
abbrev zn8 (D:List V→Option V) (F:Nat):Prop:=∀ (x0:(On Int)) (x1:Int) r,Xp F x0 x1=some r→D [Arg.arg x0,Enc.enc x1]=some (zi .sh (r:NL Int))
theorem zua {F:Nat}:zn8 (zmg F).den F:=fun x0 x1 _ h=>zN (x0,x1,()) h
theorem ztD {D:Den} {σ:Sig} {F:Nat} (hF:zy Try.prog D σ) (H:ziL D σ F):(zmg F).Ok Try.prog:=by
 refine yl (f:=74) (show unk 1000000074=74 from rfl) (fun args r h=>?_) ⟨Try.f74,Try.func74,rfl,rfl⟩
 obtain ⟨⟨x0,x1,_⟩,y,rfl,hy,rfl⟩:=zM h
 exact MT hF (by kernel_rfl) Try.func74 rfl c74o (zd1 vv (zd1 rfl rfl)) (show 2≤Try.f74.ntmps by decide) (by decide) (zuH H x0 x1 _ ⟨rfl,rfl⟩ hy)
def zmZ:AC:=(.cond (.t 18) .skip (.exit 0))
def znL:AC:=(.cond (.t 30) .skip (.exit 2))
def zmi:AC:=(.cond (.t 38) (.exit 3) .skip)
def zju:AC:=(.cond (.t 44) (.reg [.clr [50,51]] [jm 45 8,jm 46 10,jm 47 11,jv 48 (.idx (.t 46) (.t 47) 1),jv 49 (.load .s (.t 48)),jx 50 (.lit i0 1 [(0,0,.t 49)]),jx 51 (.app .s (.t 45) (.t 50)),jm 8 51] [.home 51 8]) (.reg [.clr [57]] [jm 52 7,jm 53 10,jm 54 11,jv 55 (.idx (.t 53) (.t 54) 1),jv 56 (.load .s (.t 55)),jx 57 (.callG (jf 74) 0 [.t 52,.t 56]),jm 7 57] [.home 57 7]))
def zj5:AC:=(.seq (.reg [] [jm 39 1,jm 40 10,jm 41 11,jv 42 (.idx (.t 40) (.t 41) 1),jv 43 (.load .s (.t 42)),jx 44 (.call (jf 52) [.t 39,.t 43])] []) zju)
def ze5:AC:=(.reg [] [jm 31 11,jv 32 (.bin .add (.t 31) (jn 1)),jm 11 32] [])
def zmj:AC:=(.seq (.block 3 (.seq (.seq (.reg [] [jm 33 8,jm 34 10,jm 35 11,jv 36 (.idx (.t 34) (.t 35) 1),jv 37 (.load .s (.t 36)),jx 38 (.call (jf 52) [.t 33,.t 37])] []) zmi) zj5)) ze5)
def KW:AC:=(.seq (.seq (.reg [] [jm 27 11,jm 28 10,jv 29 (.len (.t 28)),jv 30 (.bin .lss (.t 27) (.t 29))] []) znL) zmj)
def zlA:AC:=(.block 2 (.loop KW))
def znt:AC:=(.seq (.reg [] [jv 11 (.mov (jn 0))] []) zlA)
def Lu:AC:=(.reg [] [jm 19 9,jv 20 (.bin .add (.t 19) (jn 1)),jm 9 20] [])
def zne:AC:=(.seq (.block 1 (.seq (.reg [] [jv 21 (.load (.ag [.s,.p]) (.t 3)),jm 22 8,jm 23 9,jv 24 (.idx (.t 22) (.t 23) 1),jv 25 (.load .s (.t 24)),jx 26 (.call (jf 60) [.t 21,.t 25]),jm 10 26] []) znt)) Lu)
def X6:AC:=(.seq (.seq (.reg [] [jm 15 9,jm 16 8,jv 17 (.len (.t 16)),jv 18 (.bin .lss (.t 15) (.t 17))] []) zmZ) zne)
def WH:AC:=(.seq (.reg [] [jm 58 7,jm 6 58] [.home 7 6]) .ret)
def zj9:AC:=(.block 0 (.loop X6))
def zjL:AC:=(.seq (.seq (.reg [] [jv 9 (.mov (jn 0))] []) zj9) WH)
def zjz:AC:=(.seq (.reg [.clr [12,14]] [jx 12 (.lit i0 0 []),jm 13 2,jx 14 (.lit i0 1 [(0,0,.t 13)]),jm 7 12,jm 8 14] [.home 12 7,.home 14 8]) zjL)
def zs5:AC:=(.seq (.reg [.clr [3]] [jx 3 (.box (.t 0)),jv 6 (.mov (.k (.sl .nl .s 0 [])))] []) zjz)
def ztb:List An:=[⟨0,[.clr [3]],[],[],[]⟩,⟨1,[.clr [12,14]],[],[],[.home 12 7,.home 14 8]⟩,⟨11,[.clr [50,51]],[],[],[.home 51 8]⟩,⟨12,[.clr [57]],[],[2005],[.home 57 7]⟩,⟨13,[],[],[],[.home 7 6]⟩]
theorem c53o:cC Try.prog Try.f53.ntmps ztb (Try.f53.body.getD .skip)=some zs5:=by kernel_rfl
structure zg9 (D:Den) (σ:Sig) (F:Nat):Prop where
 c60:C60 (D 60) F
 g60:σ 60=some (0,false)
 c52:C52 (D 52) F
 g52:σ 52=some (0,false)
 c74o:zn8 (D 1000000074) F
 g74o:σ 1000000074=some (W7,false)
abbrev zc1 (r:(NL Int)):(Nat→V)→Prop:=RR Try.prog [.tmp 6] 1 false (zi .sh (r:NL Int))
section
variable {D:Den} {σ:Sig} {F:Nat} {r:(NL Int)}
def uS (F:Nat) (x_2:LI) (x_1:GR) (x_53:Int) (r_102:LI) (x_119:Int) (c1:(NL Int)→LI→Int→Option (NL Int)) (c4:(NL Int)→LI→Int→Option (NL Int)) (x_142:(NL Int)) (x_143:LI):Option (NL Int):=
 c4 x_142 x_143 (w64 (x_119 + 1))
theorem Nq (H:zg9 D σ F) (x_2:LI) (x_1:GR) (x_53:Int) (r_102:LI) (x_119:Int) (c1:(NL Int)→LI→Int→Option (NL Int)) (Hc1:∀ (x_51:(NL Int)) (x_52:LI) (x_53:Int) (s:Nat→V),zl [(1,eL x_2),(3,bG 3 x_1),(6,nI),(7,oI 7 [] x_51),(8,oI 8 [] (.of x_52)),(9,ji x_53)] s→c1 x_51 x_52 x_53=some r→Run D σ (zc1 r) (.run X6 [.lp X6,.bk 0,.sq WH]) s) (c4:(NL Int)→LI→Int→Option (NL Int)) (Hc4:∀ (x_117:(NL Int)) (x_118:LI) (x_119:Int) (s:Nat→V),zl [(1,eL x_2),(3,bG 3 x_1),(6,nI),(7,oI 7 [] x_117),(8,oI 8 [] (.of x_118)),(9,ji x_53),(10,eL r_102),(11,ji x_119)] s→c4 x_117 x_118 x_119=some r→Run D σ (zc1 r) (.run KW [.lp KW,.bk 2,.bk 1,.sq Lu,.lp X6,.bk 0,.sq WH]) s) (x_142:(NL Int)) (x_143:LI) (s:Nat→V) (hs:zl [(1,eL x_2),(3,bG 3 x_1),(6,nI),(7,oI 7 [] x_142),(8,oI 8 [] (.of x_143)),(9,ji x_53),(10,eL r_102),(11,ji x_119)] s) (h:uS F x_2 x_1 x_53 r_102 x_119 c1 c4 x_142 x_143=some r):Run D σ (zc1 r) (.nrm [.bk 3,.sq ze5,.lp KW,.bk 2,.bk 1,.sq Lu,.lp X6,.bk 0,.sq WH]) s:=by
 unfold uS at h
 obtain ⟨h1,h3,h6,h7,h8,h9,h10,h11⟩:=hs
 refine .nbk (.nsq (rg (gm h11 fun h31=>g1 31 (ji (w64 (x_119 + 1))) h31 fun h32=>gm h32 fun h11=>gz [(1,_),(3,_),(6,_),(7,_),(8,_),(9,_),(10,_),(11,_)] ⟨h1,h3,h6,h7,h8,h9,h10,h11⟩ ?_)))
 rintro s ⟨h1,h3,h6,h7,h8,h9,h10,h11⟩
 refine .nlp ?_
 exact Hc4 x_142 x_143 (w64 (x_119 + 1)) _ ⟨h1,h3,h6,h7,h8,h9,h10,h11⟩ h
def xV (F:Nat) (x_2:LI) (x_1:GR) (x_53:Int) (r_102:LI) (c1:(NL Int)→LI→Int→Option (NL Int)):Nat→(NL Int)→LI→Int→Option (NL Int)
 | 0,_,_,_=>none
 | k + 1,x_117,x_118,x_119=>
   bif decide (x_119 < (r_102.length:Int)) then
    (idx r_102 x_119).bind fun e_134=>
    (wC F x_118 e_134).bind fun r_135=>
    bif r_135 then
     (xV F x_2 x_1 x_53 r_102 c1 k) x_117 x_118 (w64 (x_119 + 1))
    else
     (idx r_102 x_119).bind fun e_136=>
     (wC F x_2 e_136).bind fun r_137=>
     bif r_137 then
      (idx r_102 x_119).bind fun e_144=>
      (wS x_118 [e_144]).bind fun ap_145=>
      uS F x_2 x_1 x_53 r_102 x_119 c1 (xV F x_2 x_1 x_53 r_102 c1 k) x_117 ap_145
     else
      (idx r_102 x_119).bind fun e_146=>
      (Xp F (On.mk x_117:On Int) e_146).bind fun r_147=>
      uS F x_2 x_1 x_53 r_102 x_119 c1 (xV F x_2 x_1 x_53 r_102 c1 k) r_147 x_118
   else
    c1 x_117 x_118 (w64 (x_53 + 1))
theorem zfM (H:zg9 D σ F) (x_2:LI) (x_1:GR) (x_53:Int) (r_102:LI) (c1:(NL Int)→LI→Int→Option (NL Int)) (Hc1:∀ (x_51:(NL Int)) (x_52:LI) (x_53:Int) (s:Nat→V),zl [(1,eL x_2),(3,bG 3 x_1),(6,nI),(7,oI 7 [] x_51),(8,oI 8 [] (.of x_52)),(9,ji x_53)] s→c1 x_51 x_52 x_53=some r→Run D σ (zc1 r) (.run X6 [.lp X6,.bk 0,.sq WH]) s):∀ (k:Nat) (x_117:(NL Int)) (x_118:LI) (x_119:Int) (s:Nat→V),zl [(1,eL x_2),(3,bG 3 x_1),(6,nI),(7,oI 7 [] x_117),(8,oI 8 [] (.of x_118)),(9,ji x_53),(10,eL r_102),(11,ji x_119)] s→xV F x_2 x_1 x_53 r_102 c1 k x_117 x_118 x_119=some r→Run D σ (zc1 r) (.run KW [.lp KW,.bk 2,.bk 1,.sq Lu,.lp X6,.bk 0,.sq WH]) s:=by
 intro k
 induction k with
 | zero=>intro x_117 x_118 x_119 s _ h;exact nm h
 | succ k ih=>
   intro x_117 x_118 x_119 s hs h
   rw [xV] at h
   obtain ⟨h1,h3,h6,h7,h8,h9,h10,h11⟩:=hs
   refine .seq (.seq (rg (gm h11 fun h27=>gm h10 fun h28=>gv (ji (r_102.length:Int)) (yu (xs:=r_102) h28) fun h29=>g2 27 29 (jb (decide (x_119 < (r_102.length:Int)))) h27 h29 fun h30=>gq (.nsq (zk (t:=decide (x_119 < (r_102.length:Int))) h30 h (fun h=>?_) (fun h=>?_))))))
   · refine .skip (.nsq (.seq (.block (.seq (.seq (rg (gm h8 fun h33=>gm h10 fun h34=>gm h11 fun h35=>?_)))))))
     obtain ⟨e_134,E_e_134,h⟩:=bind_some h
     refine gv (.ref .sh 0 [] (ji e_134)) (yz (t:=.sh) (lo:=0) (xs:=r_102) h34 h35 E_e_134 rfl rfl) fun h36=>g1 36 (ji e_134) h36 fun h37=>?_
     obtain ⟨r_135,E_r_135,h⟩:=bind_some h
     refine zF (m:=0) (al:=false) (r:=Enc.enc (r_135:Bool)) [eL x_118,Enc.enc (e_134:Int)] (ze (v:=oI 8 [] (.of x_118)) h33 rfl (vm (o:=.of x_118)) (ze (v:=ji e_134) h37 rfl rfl zx)) (H.c52 _ _ _ E_r_135) H.g52 rfl rfl rfl rfl (gq (.nsq (zk (t:=r_135) rfl h (fun h=>?_) (fun h=>?_))))
     · refine .exit (.esq (.ebk (.nsq (rg (gm h11 fun h31=>g1 31 (ji (w64 (x_119 + 1))) h31 fun h32=>gm h32 fun h11=>gq (.nlp ?_))))))
       exact ih x_117 x_118 (w64 (x_119 + 1)) _ ⟨h1,h3,h6,h7,h8,h9,h10,h11⟩ h
     refine .skip (.nsq (.seq (rg (gm h1 fun h39=>gm h10 fun h40=>gm h11 fun h41=>?_))))
     obtain ⟨e_136,E_e_136,h⟩:=bind_some h
     refine gv (.ref .sh 0 [] (ji e_136)) (yz (t:=.sh) (lo:=0) (xs:=r_102) h40 h41 E_e_136 rfl rfl) fun h42=>g1 42 (ji e_136) h42 fun h43=>?_
     obtain ⟨r_137,E_r_137,h⟩:=bind_some h
     refine zF (m:=0) (al:=false) (r:=Enc.enc (r_137:Bool)) [eL x_2,Enc.enc (e_136:Int)] (ze (v:=eL x_2) h39 rfl (Enc.erase_enc (x_2:LI)) (ze (v:=ji e_136) h43 rfl rfl zx)) (H.c52 _ _ _ E_r_137) H.g52 rfl rfl rfl rfl (gq (.nsq (zk (t:=r_137) rfl h (fun h=>?_) (fun h=>?_))))
     · refine zq (zS ?_)
       refine ez [(1,_),(3,_),(6,_),(7,_),(8,_),(9,_),(10,_),(11,_),(50,_),(51,_)] ⟨za h1 rfl me,za h3 rfl (zf rfl mIE),za h6 rfl rfl,za h7 rfl (zj (r:=7) (p:=[]) rfl rfl),za h8 rfl (zj (r:=8) (p:=[]) rfl rfl),za h9 rfl mi,za h10 rfl me,za h11 rfl mi,zc rfl,zc rfl⟩ ?_
       rintro s ⟨h1,h3,h6,h7,h8,h9,h10,h11,h50,h51⟩
       refine gm h8 fun h45=>gm h10 fun h46=>gm h11 fun h47=>?_
       obtain ⟨e_144,E_e_144,h⟩:=bind_some h
       refine gv (.ref .sh 0 [] (ji e_144)) (yz (t:=.sh) (lo:=0) (xs:=r_102) h46 h47 E_e_144 rfl rfl) fun h48=>g1 48 (ji e_144) h48 fun h49=>xT [(49,ji e_144)] [Enc.enc (e_144:Int)] h49 rfl rfl h50 ?_
       obtain ⟨ap_145,E_ap_145,h⟩:=bind_some h
       refine Xz (q:=8) (p:=[]) (o:=.of (x_118:LI)) (ys:=([e_144]:LI)) (t2:=.at 50 []) (lo2:=0) h45 rfl rfl h51 (ZJ (o:=.of (x_118:LI)) E_ap_145 trivial) (fun s_108 ha_108=>gm (rf (oI 51 [] (.of ap_145))) fun h8=>yQ (yC (r:=51) (x:=8) (v:=_) h8 rfl (fun s_109 hg_109=>?_)))
       refine ez [(1,eL x_2),(3,bG 3 x_1),(6,nI),(7,oI 7 [] x_117),(8,oI 8 [] (.of ap_145)),(9,ji x_53),(10,eL r_102),(11,ji x_119)] ⟨hg_109 1 _ _ (show s_108 1=(eL x_2) from zJ ha_108 h1 me) me,hg_109 3 _ _ (show s_108 3=(bG 3 x_1) from zJ ha_108 h3 (zf rfl mIE)) (zf rfl mIE),hg_109 6 _ nI (show s_108 6=nI from zJ ha_108 h6 rfl) rfl,hg_109 7 _ _ (show s_108 7=(oI 7 [] x_117) from zJ ha_108 h7 (zj (r:=7) (p:=[]) rfl rfl)) (zj (r:=7) (p:=[]) rfl rfl),hg_109 8 _ _ h8 (zj (r:=51) (p:=[]) rfl rfl),hg_109 9 _ _ (show s_108 9=(ji x_53) from zJ ha_108 h9 mi) mi,hg_109 10 _ _ (show s_108 10=(eL r_102) from zJ ha_108 h10 me) me,hg_109 11 _ _ (show s_108 11=(ji x_119) from zJ ha_108 h11 mi) mi⟩ ?_
       rintro s ⟨h1,h3,h6,h7,h8,h9,h10,h11⟩
       exact Nq H x_2 x_1 x_53 r_102 x_119 c1 Hc1 (xV F x_2 x_1 x_53 r_102 c1 k) ih x_117 ap_145 _ ⟨h1,h3,h6,h7,h8,h9,h10,h11⟩ h
     refine zq (zS ?_)
     refine ez [(1,_),(3,_),(6,_),(7,_),(8,_),(9,_),(10,_),(11,_),(57,_)] ⟨za h1 rfl me,za h3 rfl (zf rfl mIE),za h6 rfl rfl,za h7 rfl (zj (r:=7) (p:=[]) rfl rfl),za h8 rfl (zj (r:=8) (p:=[]) rfl rfl),za h9 rfl mi,za h10 rfl me,za h11 rfl mi,zc rfl⟩ ?_
     rintro s ⟨h1,h3,h6,h7,h8,h9,h10,h11,h57⟩
     refine gv (oI 7 [] x_117) (wa h7 yI) fun h52=>gm h10 fun h53=>gm h11 fun h54=>?_
     obtain ⟨e_146,E_e_146,h⟩:=bind_some h
     refine gv (.ref .sh 0 [] (ji e_146)) (yz (t:=.sh) (lo:=0) (xs:=r_102) h53 h54 E_e_146 rfl rfl) fun h55=>g1 55 (ji e_146) h55 fun h56=>?_
     obtain ⟨r_147,E_r_147,h⟩:=bind_some h
     refine zjs (q:=7) (p:=[]) (o:=(x_117:NL Int)) (r:=zi .sh (r_147:NL Int)) (u:=oI 57 [] r_147) (kk:=1000000074) [.bool true,Enc.enc (e_146:Int)] rfl h52 rfl H.g74o vf vX vv h57 (by decide) (fun s_111 ha_111=>⟨by exact (ze (v:=.bool true) rfl rfl rfl (ze (v:=ji e_146) (show s_111 56=(ji e_146) from zJ ha_111 h56 mi) rfl rfl zx)),by exact (H.c74o _ _ _ E_r_147),?_⟩)
     refine gv (oI 57 [] r_147) (wa rfl yI) fun h7=>yQ (yC (r:=57) (x:=7) (v:=_) h7 yI (fun s_112 hg_112=>?_))
     refine ez [(1,eL x_2),(3,bG 3 x_1),(6,nI),(7,oI 7 [] r_147),(8,oI 8 [] (.of x_118)),(9,ji x_53),(10,eL r_102),(11,ji x_119)] ⟨hg_112 1 _ _ (show s_111 1=(eL x_2) from zJ ha_111 h1 me) me,hg_112 3 _ _ (show s_111 3=(bG 3 x_1) from zJ ha_111 h3 (zf rfl mIE)) (zf rfl mIE),hg_112 6 _ nI (show s_111 6=nI from zJ ha_111 h6 rfl) rfl,hg_112 7 _ _ h7 (zj (r:=57) (p:=[]) rfl rfl),hg_112 8 _ _ (show s_111 8=(oI 8 [] (.of x_118)) from zJ ha_111 h8 (zj (r:=8) (p:=[]) rfl rfl)) (zj (r:=8) (p:=[]) rfl rfl),hg_112 9 _ _ (show s_111 9=(ji x_53) from zJ ha_111 h9 mi) mi,hg_112 10 _ _ (show s_111 10=(eL r_102) from zJ ha_111 h10 me) me,hg_112 11 _ _ (show s_111 11=(ji x_119) from zJ ha_111 h11 mi) mi⟩ ?_
     rintro s ⟨h1,h3,h6,h7,h8,h9,h10,h11⟩
     exact Nq H x_2 x_1 x_53 r_102 x_119 c1 Hc1 (xV F x_2 x_1 x_53 r_102 c1 k) ih r_147 x_118 _ ⟨h1,h3,h6,h7,h8,h9,h10,h11⟩ h
   refine .exit (.esq (.elp (.ebk (.nbk (.nsq (rg (gm h9 fun h19=>g1 19 (ji (w64 (x_53 + 1))) h19 fun h20=>gm h20 fun h9=>gq (.nlp ?_))))))))
   exact Hc1 x_117 x_118 (w64 (x_53 + 1)) _ ⟨h1,h3,h6,h7,h8,h9⟩ h
def vk (F:Nat) (x_2:LI) (x_1:GR) :Nat→(NL Int)→LI→Int→Option (NL Int)
 | 0,_,_,_=>none
 | k + 1,x_51,x_52,x_53=>
   bif decide (x_53 < (x_52.length:Int)) then
    (idx x_52 x_53).bind fun e_101=>
    (xU F x_1 e_101).bind fun r_102=>
    xV F x_2 x_1 x_53 r_102 (vk F x_2 x_1 k) F x_51 x_52 0
   else
    some x_51
theorem zfx (H:zg9 D σ F) (x_2:LI) (x_1:GR) :∀ (k:Nat) (x_51:(NL Int)) (x_52:LI) (x_53:Int) (s:Nat→V),zl [(1,eL x_2),(3,bG 3 x_1),(6,nI),(7,oI 7 [] x_51),(8,oI 8 [] (.of x_52)),(9,ji x_53)] s→vk F x_2 x_1 k x_51 x_52 x_53=some r→Run D σ (zc1 r) (.run X6 [.lp X6,.bk 0,.sq WH]) s:=by
 intro k
 induction k with
 | zero=>intro x_51 x_52 x_53 s _ h;exact nm h
 | succ k ih=>
   intro x_51 x_52 x_53 s hs h
   rw [vk] at h
   obtain ⟨h1,h3,h6,h7,h8,h9⟩:=hs
   refine .seq (.seq (rg (gm h9 fun h15=>gm h8 fun h16=>gv (ji (x_52.length:Int)) (YH (o:=.of x_52) h16) fun h17=>g2 15 17 (jb (decide (x_53 < (x_52.length:Int)))) h15 h17 fun h18=>gq (.nsq (zk (t:=decide (x_53 < (x_52.length:Int))) h18 h (fun h=>?_) (fun h=>?_))))))
   · refine .skip (.nsq (.seq (.block (.seq (rg (g1 3 (gV x_1) h3 fun h21=>gm h8 fun h22=>gm h9 fun h23=>?_))))))
     obtain ⟨e_101,E_e_101,h⟩:=bind_some h
     refine gv (.ref (.at 8 []) x_53.toNat [] (ji e_101)) (wE (o:=.of x_52) h22 h23 E_e_101 rfl) fun h24=>g1 24 (ji e_101) h24 fun h25=>?_
     obtain ⟨r_102,E_r_102,h⟩:=bind_some h
     refine zF (m:=0) (al:=false) (r:=eL r_102) [Enc.enc (x_1:GR),Enc.enc (e_101:Int)] (ze (v:=gV x_1) h21 rfl (Enc.erase_enc (x_1:GR)) (ze (v:=ji e_101) h25 rfl rfl zx)) (H.c60 _ _ _ E_r_102) H.g60 rfl rfl rfl rfl (gm (rf (eL r_102)) fun h10=>gq (.nsq (.seq (rg (g0 (ji 0) fun h11=>gq (.nsq (.block (.loop ?_))))))))
     exact zfM H x_2 x_1 x_53 r_102 (vk F x_2 x_1 k) ih F x_51 x_52 0 _ ⟨h1,h3,h6,h7,h8,h9,h10,h11⟩ h
   refine .exit (.esq (.elp (.ebk (.nsq (.seq (rg (gv (oI 7 [] x_51) (wa h7 yI) fun h58=>gv (oI 7 [] x_51) (wa h58 yI) fun h6=>yQ (yC (r:=7) (x:=6) (v:=_) h6 yI (fun s_113 hg_113=>?_)))))))))
   refine ez [(6,oI 6 [] x_51)] (hg_113 6 _ _ h6 (zj (r:=7) (p:=[]) rfl rfl)) ?_
   rintro s h6
   refine .nsq (.ret ?_)
   have hr:=Option.some.inj h
   subst hr
   exact rrA (zn h6) (Z6 (Yj (o:=(x_51:NL Int))) rfl (xB rfl))
def vC (F:Nat) (x_1:GR) (x_2:LI) (x_3:Int):Option (NL Int):=
 vk F x_2 x_1 F (.of []) [x_3] 0
theorem ztp (H:zg9 D σ F) (x_1:GR) (x_2:LI) (x_3:Int) (s:Nat→V) (hs:zl [(0,gV x_1),(1,eL x_2),(2,ji x_3)] s) (h:vC F x_1 x_2 x_3=some r):Run D σ (zc1 r) (.run zs5 []) s:=by
 unfold vC at h
 obtain ⟨h0,h1,h2⟩:=hs
 refine .seq (zq (zS ?_))
 refine ez [(0,_),(1,_),(2,_),(3,_)] ⟨za h0 rfl mIE,za h1 rfl me,za h2 rfl mi,zc rfl⟩ ?_
 rintro s ⟨h0,h1,h2,h3⟩
 refine xz (gV x_1) (zw h0 rfl) h3 rfl (g0 nI fun h6=>gq (.nsq (.seq (zq (zS ?_)))))
 refine ez [(1,_),(2,_),(3,_),(6,_),(12,_),(14,_)] ⟨za h1 rfl me,za h2 rfl mi,za rfl rfl (zf rfl mIE),za h6 rfl rfl,zc rfl,zc rfl⟩ ?_
 rintro s ⟨h1,h2,h3,h6,h12,h14⟩
 refine xT [] [] trivial rfl rfl h12 (gm h2 fun h13=>xT [(13,ji x_3)] [Enc.enc (x_3:Int)] h13 rfl rfl h14 (gm (rf (oI 12 [] (.of []))) fun h7=>gm (rf (oI 14 [] (.of [x_3]))) fun h8=>yQ (yC (r:=12) (x:=7) (v:=_) h7 rfl (fun s_3 hg_3=>yC (r:=14) (x:=8) (v:=_) (by exact (hg_3 8 _ _ h8 (zj (r:=14) (p:=[]) rfl rfl))) rfl (fun s_4 hg_4=>?_)))))
 refine ez [(1,eL x_2),(3,bG 3 x_1),(6,nI),(7,oI 7 [] (.of [])),(8,oI 8 [] (.of [x_3]))] ⟨hg_4 1 _ _ (hg_3 1 _ _ h1 me) me,hg_4 3 _ _ (hg_3 3 _ _ h3 (zf rfl mIE)) (zf rfl mIE),hg_4 6 _ nI (hg_3 6 _ nI h6 rfl) rfl,hg_4 7 _ _ (hg_3 7 _ _ h7 (zj (r:=12) (p:=[]) rfl rfl)) (zj (r:=7) (p:=[]) rfl rfl),hg_4 8 _ _ (hg_3 8 _ _ h8 (zj (r:=14) (p:=[]) rfl rfl)) (zj (r:=14) (p:=[]) rfl rfl)⟩ ?_
 rintro s ⟨h1,h3,h6,h7,h8⟩
 refine .nsq (.seq (.seq (rg (g0 (ji 0) fun h9=>gq (.nsq (.block (.loop ?_)))))))
 exact zfx H x_2 x_1 F (.of []) [x_3] 0 _ ⟨h1,h3,h6,h7,h8,h9⟩ h
end
def znc (F:Nat):Ent:=ent 1000000053 (fun (x:(GR×LI×Int×Unit))=>vC F x.1 x.2.1 x.2.2.1) (fun (r:(NL Int))=>(zi .sh (r:NL Int))) 1 false []
abbrev zl9 (D:List V→Option V) (F:Nat):Prop:=∀ (x0:GR) (x1:LI) (x2:Int) r,vC F x0 x1 x2=some r→D [Enc.enc x0,Enc.enc x1,Enc.enc x2]=some (zi .sh (r:NL Int))
theorem zoH {F:Nat}:zl9 (znc F).den F:=fun x0 x1 x2 _ h=>zN (x0,x1,x2,()) h
theorem zth {D:Den} {σ:Sig} {F:Nat} (hF:zy Try.prog D σ) (H:zg9 D σ F):(znc F).Ok Try.prog:=by
 refine yl (f:=53) (show unk 1000000053=53 from rfl) (fun args r h=>?_) ⟨Try.f53,Try.func53,rfl,rfl⟩
 obtain ⟨⟨x0,x1,x2,_⟩,y,rfl,hy,rfl⟩:=zM h
 exact zm hF (by kernel_rfl) Try.func53 rfl c53o (show 3≤Try.f53.ntmps by decide) (ztp H x0 x1 x2 _ ⟨rfl,rfl,rfl⟩ hy)
end Go.Zq
