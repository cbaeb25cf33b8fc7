/- The table of the functions' contracts. No further condition. -/
import Derived.Test.YtelahampjnaimaaK4
import Derived.Test.YtelahampjnaimaaProg
import Derived.Test.YtelahampjnaimaaChecked
import Derived.KernelRfl
import Derived.Test.YtelahampjnaimaaG5
set_option linter.unusedVariables false
set_option linter.unusedSimpArgs false
namespace Go.Zq
open Go.Proofs
variable {D:Den} {σ:Sig} {F:Nat}
def zey (F:Nat):List Ent:=e4 F :: []
theorem zj5 (F:Nat):zG Try.prog (tD (zey F)) (tS (zey F)):=zx (o4 (zc2) ⟨⟩) (zc2) (.inl rfl)
def zeY (F:Nat):List Ent:=e49 F :: zey F
theorem zka (F:Nat):zG Try.prog (tD (zeY F)) (tS (zeY F)):=zx (o49 (zj5 F) ⟨⟩) (zj5 F) (.inl rfl)
def zex (F:Nat):List Ent:=e24 F :: zeY F
theorem ziO (F:Nat):zG Try.prog (tD (zex F)) (tS (zex F)):=zx (o24 (zka F) ⟨p49,rfl⟩) (zka F) (.inl rfl)
def zfk (F:Nat):List Ent:=e39 F :: zex F
theorem zki (F:Nat):zG Try.prog (tD (zfk F)) (tS (zfk F)):=zx (o39 (ziO F) ⟨p24,rfl⟩) (ziO F) (.inl rfl)
def zeu (F:Nat):List Ent:=e22 F :: zfk F
theorem ziI (F:Nat):zG Try.prog (tD (zeu F)) (tS (zeu F)):=zx (o22 (zki F) ⟨p24,rfl⟩) (zki F) (.inl rfl)
def zeo (F:Nat):List Ent:=e48 F :: zeu F
theorem zkj (F:Nat):zG Try.prog (tD (zeo F)) (tS (zeo F)):=zx (o48 (ziI F) ⟨⟩) (ziI F) (.inl rfl)
def zeZ (F:Nat):List Ent:=zom F :: zeo F
theorem zku (F:Nat):zG Try.prog (tD (zeZ F)) (tS (zeZ F)):=zx (zx2 (zkj F) ⟨⟩) (zkj F) (.inl rfl)
def zeX (F:Nat):List Ent:=e52 F :: zeZ F
theorem zj0 (F:Nat):zG Try.prog (tD (zeX F)) (tS (zeX F)):=zx (o52 (zku F) ⟨⟩) (zku F) (.inl rfl)
def zeO (F:Nat):List Ent:=zpE F :: zeX F
theorem zlc (F:Nat):zG Try.prog (tD (zeO F)) (tS (zeO F)):=zx (zwP (zj0 F) ⟨p52,rfl⟩) (zj0 F) (.inl rfl)
def zep (F:Nat):List Ent:=zpl F :: zeO F
theorem zj7 (F:Nat):zG Try.prog (tD (zep F)) (tS (zep F)):=zx (zwu (zlc F) ⟨zrE,rfl,zsT,rfl⟩) (zlc F) (.inl rfl)
def za8 (F:Nat):List Ent:=zpf F :: zep F
theorem zf7 (F:Nat):zG Try.prog (tD (za8 F)) (tS (za8 F)):=zx (zwp (zj7 F) ⟨⟩) (zj7 F) (.inl rfl)
def zcE (F:Nat):List Ent:=e31 F :: za8 F
theorem zf0 (F:Nat):zG Try.prog (tD (zcE F)) (tS (zcE F)):=zx (o31 (zf7 F) ⟨⟩) (zf7 F) (.inl rfl)
def zbi (F:Nat):List Ent:=e73 F :: zcE F
theorem zg4 (F:Nat):zG Try.prog (tD (zbi F)) (tS (zbi F)):=zx (o73 (zf0 F) ⟨⟩) (zf0 F) (.inl rfl)
def zaV (F:Nat):List Ent:=e74 F :: zbi F
theorem zgT (F:Nat):zG Try.prog (tD (zaV F)) (tS (zaV F)):=zx (o74 (zg4 F) ⟨p24,rfl,p39,rfl⟩) (zg4 F) (.inl rfl)
def zbx (F:Nat):List Ent:=e47 F :: zaV F
theorem zhj (F:Nat):zG Try.prog (tD (zbx F)) (tS (zbx F)):=zx (o47 (zgT F) ⟨p39,rfl,p22,rfl,p24,rfl,p48,rfl,zrE,rfl,zwr,rfl,zwT,rfl,zsT,rfl,p31,rfl,p73,rfl,p74,rfl⟩) (zgT F) (.inl rfl)
def zch (F:Nat):List Ent:=e21 F :: zbx F
theorem zgw (F:Nat):zG Try.prog (tD (zch F)) (tS (zch F)):=zx (o21 (zhj F) ⟨p47,rfl⟩) (zhj F) (.inl rfl)
def za1 (F:Nat):List Ent:=e41 F :: zch F
theorem zfY (F:Nat):zG Try.prog (tD (za1 F)) (tS (za1 F)):=zx (o41 (zgw F) ⟨⟩) (zgw F) (.inl rfl)
def zcq (F:Nat):List Ent:=e28 F :: za1 F
theorem zgx (F:Nat):zG Try.prog (tD (zcq F)) (tS (zcq F)):=zx (o28 (zfY F) ⟨p41,rfl,p52,rfl⟩) (zfY F) (.inl rfl)
def zb8 (F:Nat):List Ent:=e64 F :: zcq F
theorem zgn (F:Nat):zG Try.prog (tD (zb8 F)) (tS (zb8 F)):=zx (o64 (zgx F) ⟨⟩) (zgx F) (.inl rfl)
def zaN (F:Nat):List Ent:=e53 F :: zb8 F
theorem zfw (F:Nat):zG Try.prog (tD (zaN F)) (tS (zaN F)):=zx (o53 (zgn F) ⟨⟩) (zgn F) (.inl rfl)
def zbf (F:Nat):List Ent:=e63 F :: zaN F
theorem zgy (F:Nat):zG Try.prog (tD (zbf F)) (tS (zbf F)):=zx (o63 (zfw F) ⟨⟩) (zfw F) (.inl rfl)
def zcA (F:Nat):List Ent:=e62 F :: zbf F
theorem zgr (F:Nat):zG Try.prog (tD (zcA F)) (tS (zcA F)):=zx (o62 (zgy F) ⟨p53,rfl,p73,rfl,p63,rfl⟩) (zgy F) (.inl rfl)
def zca (F:Nat):List Ent:=e42 F :: zcA F
theorem zfC (F:Nat):zG Try.prog (tD (zca F)) (tS (zca F)):=zx (o42 (zgr F) ⟨p53,rfl,p62,rfl,p63,rfl⟩) (zgr F) (.inl rfl)
def zaO (F:Nat):List Ent:=e78 F :: zca F
theorem zgW (F:Nat):zG Try.prog (tD (zaO F)) (tS (zaO F)):=zx (o78 (zfC F) ⟨⟩) (zfC F) (.inl rfl)
def zco (F:Nat):List Ent:=e58 F :: zaO F
theorem zgz (F:Nat):zG Try.prog (tD (zco F)) (tS (zco F)):=zx (o58 (zgW F) ⟨p64,rfl,p42,rfl,p78,rfl,p31,rfl,p48,rfl⟩) (zgW F) (.inl rfl)
def zcj (F:Nat):List Ent:=e43 F :: zco F
theorem zfM (F:Nat):zG Try.prog (tD (zcj F)) (tS (zcj F)):=zx (o43 (zgz F) ⟨p64,rfl⟩) (zgz F) (.inl rfl)
def zcy (F:Nat):List Ent:=e80 F :: zcj F
theorem zg1 (F:Nat):zG Try.prog (tD (zcy F)) (tS (zcy F)):=zx (o80 (zfM F) ⟨p78,rfl⟩) (zfM F) (.inl rfl)
def zbc (F:Nat):List Ent:=zo8 F :: zcy F
theorem zgC (F:Nat):zG Try.prog (tD (zbc F)) (tS (zbc F)):=zx (zwC (zg1 F) ⟨⟩) (zg1 F) (.inl rfl)
def KV (F:Nat):List Ent:=e65 F :: zbc F
theorem zg9 (F:Nat):zG Try.prog (tD (KV F)) (tS (KV F)):=zx (o65 (zgC F) ⟨⟩) (zgC F) (.inl rfl)
def Lb (F:Nat):List Ent:=zhp F F :: KV F
theorem zfX (F:Nat):∀ k,zG Try.prog (tD (zhp F k :: KV F)) (tS (zhp F k :: KV F))
 | 0=>zx zwh (zg9 F) (.inl rfl)
 | k + 1=>zx (zxL (zfX F k) ⟨zqv,rfl,p42,rfl,p80,rfl,p65,rfl,fun _ _ _ _ _ r h=>zoc (k:=k) h,rfl⟩) (zg9 F) (.inl rfl)
theorem zhh (F:Nat):zG Try.prog (tD (Lb F)) (tS (Lb F)):=zfX F F
def zce (F:Nat):List Ent:=e61 F F :: Lb F
theorem zgO (F:Nat):∀ k,zG Try.prog (tD (e61 F k :: Lb F)) (tS (e61 F k :: Lb F))
 | 0=>zx z61 (zhh F) (.inl rfl)
 | k + 1=>zx (o61 (zgO F k) ⟨zqv,rfl,p42,rfl,p80,rfl,p65,rfl,fun _ _ _ _ _ r h=>zoc (k:=F) h,rfl⟩) (zhh F) (.inl rfl)
theorem zfD (F:Nat):zG Try.prog (tD (zce F)) (tS (zce F)):=zgO F F
def za7 (F:Nat):List Ent:=e38 F :: zce F
theorem zgH (F:Nat):zG Try.prog (tD (za7 F)) (tS (za7 F)):=zx (o38 (zfD F) ⟨p58,rfl,p43,rfl,fun _ _ _ _ _ r h=>p61 (k:=F) h,rfl⟩) (zfD F) (.inl rfl)
def zby (F:Nat):List Ent:=e13 F :: za7 F
theorem zfA (F:Nat):zG Try.prog (tD (zby F)) (tS (zby F)):=zx (o13 (zgH F) ⟨p28,rfl,p38,rfl⟩) (zgH F) (.inl rfl)
def zbY (F:Nat):List Ent:=e23 F :: zby F
theorem zgu (F:Nat):zG Try.prog (tD (zbY F)) (tS (zbY F)):=zx (o23 (zfA F) ⟨p48,rfl,p24,rfl,p22,rfl,p39,rfl⟩) (zfA F) (.inl rfl)
def zbQ (F:Nat):List Ent:=zn6 F :: zbY F
theorem zfH (F:Nat):zG Try.prog (tD (zbQ F)) (tS (zbQ F)):=zx (zwa (zgu F) ⟨p58,rfl,p43,rfl,fun _ _ _ _ _ r h=>zoc (k:=F) h,rfl⟩) (zgu F) (.inl rfl)
def zbo (F:Nat):List Ent:=zot F :: zbQ F
theorem zfP (F:Nat):zG Try.prog (tD (zbo F)) (tS (zbo F)):=zx (zxZ (zfH F) ⟨p28,rfl,zwZ,rfl⟩) (zfH F) (.inl rfl)
def zbn (F:Nat):List Ent:=e25 F :: zbo F
theorem zhl (F:Nat):zG Try.prog (tD (zbn F)) (tS (zbn F)):=zx (o25 (zfP F) ⟨⟩) (zfP F) (.inl rfl)
def zbh (F:Nat):List Ent:=e5 F :: zbn F
theorem zfy (F:Nat):zG Try.prog (tD (zbh F)) (tS (zbh F)):=zx (o5 (zhl F) ⟨p21,rfl,zwJ,rfl,p22,rfl,p23,rfl,p24,rfl,p25,rfl⟩) (zhl F) (.inl rfl)
def zb9 (F:Nat):List Ent:=e40 F :: zbh F
theorem zfI (F:Nat):zG Try.prog (tD (zb9 F)) (tS (zb9 F)):=zx (o40 (zfy F) ⟨⟩) (zfy F) (.inl rfl)
def zcv (F:Nat):List Ent:=e83 F :: zb9 F
theorem zf6 (F:Nat):zG Try.prog (tD (zcv F)) (tS (zcv F)):=zx (o83 (zfI F) ⟨⟩) (zfI F) (.inl rfl)
def zbA (F:Nat):List Ent:=e75 F :: zcv F
theorem zhc (F:Nat):zG Try.prog (tD (zbA F)) (tS (zbA F)):=zx (o75 (zf6 F) ⟨p83,rfl⟩) (zf6 F) (.inl rfl)
def zbk (F:Nat):List Ent:=e50 F :: zbA F
theorem zgI (F:Nat):zG Try.prog (tD (zbk F)) (tS (zbk F)):=zx (o50 (zhc F) ⟨p75,rfl⟩) (zhc F) (.inl rfl)
def zbB (F:Nat):List Ent:=e26 F :: zbk F
theorem zf3 (F:Nat):zG Try.prog (tD (zbB F)) (tS (zbB F)):=zx (o26 (zgI F) ⟨p40,rfl,p50,rfl⟩) (zgI F) (.inl rfl)
def za6 (F:Nat):List Ent:=e51 F :: zbB F
theorem zgt (F:Nat):zG Try.prog (tD (za6 F)) (tS (za6 F)):=zx (o51 (zf3 F) ⟨p40,rfl⟩) (zf3 F) (.inl rfl)
def zbC (F:Nat):List Ent:=e27 F :: za6 F
theorem zhg (F:Nat):zG Try.prog (tD (zbC F)) (tS (zbC F)):=zx (o27 (zgt F) ⟨p51,rfl⟩) (zgt F) (.inl rfl)
def zb7 (F:Nat):List Ent:=e6 F :: zbC F
theorem zfF (F:Nat):zG Try.prog (tD (zb7 F)) (tS (zb7 F)):=zx (o6 (zhg F) ⟨p26,rfl,p27,rfl⟩) (zhg F) (.inl rfl)
def zaX (F:Nat):List Ent:=e32 F :: zb7 F
theorem zfn (F:Nat):zG Try.prog (tD (zaX F)) (tS (zaX F)):=zx (o32 (zfF F) ⟨⟩) (zfF F) (.inl rfl)
def zbO (F:Nat):List Ent:=e29 F :: zaX F
theorem zgm (F:Nat):zG Try.prog (tD (zbO F)) (tS (zbO F)):=zx (o29 (zfn F) ⟨p41,rfl,p32,rfl,p53,rfl⟩) (zfn F) (.inl rfl)
def zcm (F:Nat):List Ent:=e7 F :: zbO F
theorem zf9 (F:Nat):zG Try.prog (tD (zcm F)) (tS (zcm F)):=zx (o7 (zgm F) ⟨p28,rfl,p29,rfl⟩) (zgm F) (.inl rfl)
def zbz (F:Nat):List Ent:=e55 F :: zcm F
theorem zft (F:Nat):zG Try.prog (tD (zbz F)) (tS (zbz F)):=zx (o55 (zf9 F) ⟨⟩) (zf9 F) (.inl rfl)
def zcp (F:Nat):List Ent:=e30 F :: zbz F
theorem zgR (F:Nat):zG Try.prog (tD (zcp F)) (tS (zcp F)):=zx (o30 (zft F) ⟨p55,rfl⟩) (zft F) (.inl rfl)
def za0 (F:Nat):List Ent:=e8 F :: zcp F
theorem zgV (F:Nat):zG Try.prog (tD (za0 F)) (tS (za0 F)):=zx (o8 (zgR F) ⟨p26,rfl,p27,rfl,p30,rfl⟩) (zgR F) (.inl rfl)
def zcb (F:Nat):List Ent:=e9 F :: za0 F
theorem zgN (F:Nat):zG Try.prog (tD (zcb F)) (tS (zcb F)):=zx (o9 (zgV F) ⟨p28,rfl,p29,rfl,p32,rfl,p31,rfl⟩) (zgV F) (.inl rfl)
def zb3 (F:Nat):List Ent:=e33 F :: zcb F
theorem zgb (F:Nat):zG Try.prog (tD (zb3 F)) (tS (zb3 F)):=zx (o33 (zgN F) ⟨⟩) (zgN F) (.inl rfl)
def zbD (F:Nat):List Ent:=e35 F :: zb3 F
theorem zfs (F:Nat):zG Try.prog (tD (zbD F)) (tS (zbD F)):=zx (o35 (zgb F) ⟨⟩) (zgb F) (.inl rfl)
def zbT (F:Nat):List Ent:=e76 F :: zbD F
theorem zg6 (F:Nat):zG Try.prog (tD (zbT F)) (tS (zbT F)):=zx (o76 (zfs F) ⟨⟩) (zfs F) (.inl rfl)
def zaZ (F:Nat):List Ent:=e56 F :: zbT F
theorem zha (F:Nat):zG Try.prog (tD (zaZ F)) (tS (zaZ F)):=zx (o56 (zg6 F) ⟨p76,rfl⟩) (zg6 F) (.inl rfl)
def zbF (F:Nat):List Ent:=e77 F :: zaZ F
theorem zgA (F:Nat):zG Try.prog (tD (zbF F)) (tS (zbF F)):=zx (o77 (zha F) ⟨⟩) (zha F) (.inl rfl)
def zba (F:Nat):List Ent:=e57 F :: zbF F
theorem zfN (F:Nat):zG Try.prog (tD (zba F)) (tS (zba F)):=zx (o57 (zgA F) ⟨p77,rfl⟩) (zgA F) (.inl rfl)
def zck (F:Nat):List Ent:=e34 F :: zba F
theorem zfT (F:Nat):zG Try.prog (tD (zck F)) (tS (zck F)):=zx (o34 (zfN F) ⟨p35,rfl,p56,rfl,p57,rfl⟩) (zfN F) (.inl rfl)
def zbR (F:Nat):List Ent:=e10 F :: zck F
theorem zfv (F:Nat):zG Try.prog (tD (zbR F)) (tS (zbR F)):=zx (o10 (zfT F) ⟨p26,rfl,p33,rfl,p34,rfl,p35,rfl⟩) (zfT F) (.inl rfl)
def zb1 (F:Nat):List Ent:=e36 F :: zbR F
theorem zgp (F:Nat):zG Try.prog (tD (zb1 F)) (tS (zb1 F)):=zx (o36 (zfv F) ⟨p58,rfl⟩) (zfv F) (.inl rfl)
def zbl (F:Nat):List Ent:=e11 F :: zb1 F
theorem zgZ (F:Nat):zG Try.prog (tD (zbl F)) (tS (zbl F)):=zx (o11 (zgp F) ⟨p28,rfl,p36,rfl⟩) (zgp F) (.inl rfl)
def Lj (F:Nat):List Ent:=e59 F :: zbl F
theorem zge (F:Nat):zG Try.prog (tD (Lj F)) (tS (Lj F)):=zx (o59 (zgZ F) ⟨⟩) (zgZ F) (.inl rfl)
def zcs (F:Nat):List Ent:=e60 F F :: Lj F
theorem zfO (F:Nat):∀ k,zG Try.prog (tD (e60 F k :: Lj F)) (tS (e60 F k :: Lj F))
 | 0=>zx z60 (zge F) (.inl rfl)
 | k + 1=>zx (o60 (zfO F k) fun _ _=>⟨p56,rfl,p57,rfl,fun _ _ _ _ h=>p60 (k:=k) h,rfl⟩) (zge F) (.inl rfl)
theorem zfQ (F:Nat):zG Try.prog (tD (zcs F)) (tS (zcs F)):=zfO F F
def zaY (F:Nat):List Ent:=e37 F :: zcs F
theorem zgB (F:Nat):zG Try.prog (tD (zaY F)) (tS (zaY F)):=zx (o37 (zfQ F) ⟨p34,rfl,p59,rfl,p35,rfl,fun _ _ _ _ _ _ h=>p60 (k:=F) h,rfl⟩) (zfQ F) (.inl rfl)
def zbp (F:Nat):List Ent:=e12 F :: zaY F
theorem zfp (F:Nat):zG Try.prog (tD (zbp F)) (tS (zbp F)):=zx (o12 (zgB F) ⟨p26,rfl,p33,rfl,p37,rfl⟩) (zgB F) (.inl rfl)
def zaP (F:Nat):List Ent:=e15 F :: zbp F
theorem zg0 (F:Nat):zG Try.prog (tD (zaP F)) (tS (zaP F)):=zx (o15 (zfp F) ⟨⟩) (zfp F) (.inl rfl)
def za3 (F:Nat):List Ent:=e14 F :: zaP F
theorem zg3 (F:Nat):zG Try.prog (tD (za3 F)) (tS (za3 F)):=zx (o14 (zg0 F) ⟨p21,rfl,p24,rfl,p39,rfl⟩) (zg0 F) (.inl rfl)
def La (F:Nat):List Ent:=e16 F :: za3 F
theorem zgc (F:Nat):zG Try.prog (tD (La F)) (tS (La F)):=zx (o16 (zg3 F) ⟨p26,rfl,p40,rfl,p33,rfl,p34,rfl,p35,rfl⟩) (zg3 F) (.inl rfl)
def zbU (F:Nat):List Ent:=e44 F F :: La F
theorem zhd (F:Nat):∀ k,zG Try.prog (tD (e44 F k :: La F)) (tS (e44 F k :: La F))
 | 0=>zx z44 (zgc F) (.inl rfl)
 | k + 1=>zx (o44 (zhd F k) ⟨p65,rfl,p42,rfl,fun _ _ _ r h=>p44 (k:=k) h,rfl⟩) (zgc F) (.inl rfl)
theorem zhb (F:Nat):zG Try.prog (tD (zbU F)) (tS (zbU F)):=zhd F F
def zcB (F:Nat):List Ent:=e17 F :: zbU F
theorem zf1 (F:Nat):zG Try.prog (tD (zcB F)) (tS (zcB F)):=zx (o17 (zhb F) ⟨p28,rfl,p41,rfl,p43,rfl,p42,rfl,fun _ _ _ r h=>p44 (k:=F) h,rfl⟩) (zhb F) (.inl rfl)
def zaR (F:Nat):List Ent:=e18 F :: zcB F
theorem zgq (F:Nat):zG Try.prog (tD (zaR F)) (tS (zaR F)):=zx (o18 (zf1 F) ⟨⟩) (zf1 F) (.inl rfl)
def zbE (F:Nat):List Ent:=e81 F :: zaR F
theorem zgo (F:Nat):zG Try.prog (tD (zbE F)) (tS (zbE F)):=zx (o81 (zgq F) ⟨p76,rfl,p30,rfl⟩) (zgq F) (.inl rfl)
def zbK (F:Nat):List Ent:=zj9 F :: zbE F
theorem zfx (F:Nat):zG Try.prog (tD (zbK F)) (tS (zbK F)):=zx (zp0 (zgo F) ⟨p35,rfl,p77,rfl,p81,rfl⟩) (zgo F) (.inl rfl)
def zcd (F:Nat):List Ent:=e66 F :: zbK F
theorem zgX (F:Nat):zG Try.prog (tD (zcd F)) (tS (zcd F)):=zx (o66 (zfx F) ⟨zrH,rfl⟩) (zfx F) (.inl rfl)
def za9 (F:Nat):List Ent:=e45 F :: zcd F
theorem zfo (F:Nat):zG Try.prog (tD (za9 F)) (tS (za9 F)):=zx (o45 (zgX F) ⟨p66,rfl⟩) (zgX F) (.inl rfl)
def zcu (F:Nat):List Ent:=e19 F :: za9 F
theorem zgQ (F:Nat):zG Try.prog (tD (zcu F)) (tS (zcu F)):=zx (o19 (zfo F) ⟨p26,rfl,p40,rfl,p33,rfl,p45,rfl⟩) (zfo F) (.inl rfl)
def zbu (F:Nat):List Ent:=e82 F :: zcu F
theorem zfE (F:Nat):zG Try.prog (tD (zbu F)) (tS (zbu F)):=zx (o82 (zgQ F) ⟨p77,rfl⟩) (zgQ F) (.inl rfl)
def zaU (F:Nat):List Ent:=e68 F :: zbu F
theorem zgh (F:Nat):zG Try.prog (tD (zaU F)) (tS (zaU F)):=zx (o68 (zfE F) ⟨p82,rfl,p30,rfl⟩) (zfE F) (.inl rfl)
def zbM (F:Nat):List Ent:=zjO F :: zaU F
theorem zgE (F:Nat):zG Try.prog (tD (zbM F)) (tS (zbM F)):=zx (zqt (zgh F) ⟨p35,rfl,p77,rfl,p68,rfl⟩) (zgh F) (.inr rfl)
def zaM (F:Nat):List Ent:=e46 F :: zbM F
theorem zfL (F:Nat):zG Try.prog (tD (zaM F)) (tS (zaM F)):=zx (o46 (zgE F) ⟨zrl,rfl⟩) (zgE F) (.inl rfl)
def zcz (F:Nat):List Ent:=e20 F :: zaM F
theorem zfG (F:Nat):zG Try.prog (tD (zcz F)) (tS (zcz F)):=zx (o20 (zfL F) ⟨p26,rfl,p33,rfl,p46,rfl⟩) (zfL F) (.inl rfl)
def zg7 (F:Nat):List Ent:=e3 F :: zcz F
theorem zmf (F:Nat):zG Try.prog (tD (zg7 F)) (tS (zg7 F)):=zx (o3 (zfG F) ⟨p4,rfl,p5,rfl,p6,rfl,p7,rfl,p8,rfl,p9,rfl,p10,rfl,p11,rfl,p12,rfl,p13,rfl,p15,rfl,p14,rfl,p16,rfl,p17,rfl,p18,rfl,p19,rfl,p20,rfl⟩) (zfG F) (.inl rfl)
theorem zxh (F:Nat) (x0:LB) (h:uZ F x0=some true):UQ Try.prog 3 0 false [Enc.enc x0] (.bool true):=Ng ((zmf F).con 3 _ _ 0 false (p3 h) rfl) rfl rfl
end Go.Zq
