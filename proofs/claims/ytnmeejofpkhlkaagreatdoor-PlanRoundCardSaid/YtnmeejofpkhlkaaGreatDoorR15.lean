/- The greatest common divisor by halves: math/bits.TrailingZeros64 (its table is laid), long.binary. -/
import Derived.Test.YtnmeejofpkhlkaaGreatDoorR13
import Derived.Lib.TrailingZeros
import Derived.Laws.Bits64b
set_option linter.all false
set_option maxRecDepth 100000
set_option maxHeartbeats 12800000
namespace Go.Proofs.YtnmeejofpkhlkaaGreatDoor
open Lib renaming hid → Ag
open Go.RowKit
def Bz (w:World):Prop:=∀ j,j < Lib.deBruijn64tab.length→w.cell? ⟨0,j,none⟩=some (.int .u8 (Lib.deBruijn64tab.getD j 0))
theorem Bz.lt {w:World} (h:Bz w):0 < w.heap.size:=World.block_lt_of_cell? w _ (h 0 ay)
theorem Bz.below {w w':World} {B:Nat} (h:Bz w) (hB:0 < B) (hb:Below B w w'):Bz w':=fun j hj=>(hb.cell (p:=⟨0,j,none⟩) hB).trans (h j hj)
theorem Bz.on {w w':World} (h:Bz w) (hb:Below w.heap.size w w'):Bz w':=h.below h.lt hb
theorem akI (x a:Nat) (hx:x < 18446744073709551616) (hx0:x≠0) (hlow:x &&& (18446744073709551616 - x)=a) :
  IntKind.u64.wrap (bits BinOp.and IntKind.u64 (x:Int) (IntKind.u64.wrap (-(x:Int)))*285870213051353865) / 288230376151711744=((a*285870213051353865 % 18446744073709551616 / 288230376151711744:Nat):Int):=by
 have e1:IntKind.u64.wrap (-(x:Int))=((18446744073709551616 - x:Nat):Int):=by rw[IntKind.wrap_u64];omega
 rw[e1,bits_and_u64_nat x _ hx byOmega,hlow,IntKind.wrap_u64];omega
theorem ajO (x k idx:Nat) (w:World) (hx0:((x:Int)==0)=false)
  (key:IntKind.u64.wrap (bits BinOp.and IntKind.u64 (x:Int) (IntKind.u64.wrap (-(x:Int)))*285870213051353865) / 288230376151711744=(idx:Int))
  (hi:idx < 64) (hk:k < 64) (hcell:w.cell? ⟨0,idx,none⟩=some (.int .u8 k)) :
  Calls Tryz.prog 179 #[.int .u64 x] w fun e w'=>e = .returned (.int .i64 k)∧w=w':=by
 go_in;go_wp2_with (simp only[key])
 go_ret;exact⟨rfl,rfl⟩
theorem afo (x:Nat) (hx:x < 18446744073709551616) (hx0:x≠0) (w:World) (hT:Bz w) :
  Calls Tryz.prog 179 #[.int .u64 x] w fun e w'=>∃ k m:Nat,e = .returned (.int .i64 k)∧w=w'∧x=2 ^ k*(2*m+1)∧k < 64:=by
 obtain⟨hlow,hk⟩:=Lib.lowest_bit 64 x hx0 hx;obtain⟨hi,htab⟩:=Lib.deBruijn64_at _ hk;have hcell:=hT _ hi;rw[htab] at hcell;obtain⟨m,hm,_⟩:=Lib.ctzFrom_spec 64 x byOmega hx;have e:Lib.ctz 64 x=Lib.ctzFrom 64 x:=by simp[Lib.ctz,hx0]
 rw[← e] at hm;refine(ajO x _ _ w aF (akI x _ hx hx0 hlow) hi hk hcell).mono ?_;rintro e' w' ⟨rfl,rfl⟩;exact⟨_,m,rfl,rfl,hm,hk⟩
theorem agp {k n:Nat} (hk:k < 64):((2 ^ k*n:Nat):Int) / ((2 ^ k:Nat):Int)=(n:Int):=by
 rw[← Int.natCast_ediv,Nat.mul_div_cancel_left _ (Nat.pow_pos ay)]
theorem adS (w:World) (a b:Nat) (ha:a < 1000000000000000000) (hb:b < 1000000000000000000) (ha0:a≠0) (hb0:b≠0) (hT:Bz w) :
  Calls Tryz.prog 154 #[.int .u64 (a:Int),.int .u64 (b:Int)] w (Ret w fun v _=>v = .int .u64 (Nat.gcd a b:Int)):=by
 have ea:((a:Int)==0)=false:=beq_false_of_ne byOmega;have eb:((b:Int)==0)=false:=beq_false_of_ne byOmega;have hor0:a ||| b≠0:=by
  intro h;have:=Nat.left_le_or (n:=a) (m:=b);omega
 have hor:a ||| b < 18446744073709551616:=Nat.or_lt_two_pow (n:=64) byOmega byOmega
 go_in;go_wp2_with fail
 rw[show bits BinOp.or IntKind.u64 (a:Int) (b:Int)=((a ||| b:Nat):Int) from bits_or_u64_nat a b byOmega byOmega];refine(afo _ hor hor0 w hT).mono ?_;rintro e w' ⟨s,r,rfl,rfl,hs,hs64⟩;have HS:=Ag hs;clear hs;dsimp only;go_wp2_with fail
 refine(afo a byOmega ha0 w hT).mono ?_;rintro e w' ⟨i,m,rfl,rfl,hi,hi64⟩;have HI:=Ag hi;clear hi;dsimp only;go_wp2_with fail
 have haq:(a:Int) / 2 ^ i=((2*m+1:Nat):Int):=by rw[HI.out];exact_mod_cast agp hi64
 rw[haq];have hmb:2*m+1≤a:=by have h:=HI.out;have:1*(2*m+1)≤2 ^ i*(2*m+1):=Nat.mul_le_mul_right _ (Nat.pow_pos ay);omega
 have HG:=Ag (show ∀ (jj nn:Nat),b=2 ^ jj*(2*nn+1)→Nat.gcd (2*m+1) b*2 ^ s=Nat.gcd a b from fun jj nn h=>ajz HI.out h HS.out);clear haq;obtain⟨G,hG⟩:=named (Nat.gcd (2*m+1) b);have HGG:=Ag hG;have HGO:=Ag hG;clear hG;go_loopw [0,1] (fun av bv wr=>∃ x y:Nat,av = .int .u64 (x:Int)∧bv = .int .u64 (y:Int)∧(∃ q,x=2*q+1)∧x < 1000000000000000000∧y < 1000000000000000000∧G=Nat.gcd x y∧w=wr) (fun av bv _=>(intOf av).toNat+(intOf bv).toNat)
 case atStart=>exact⟨2*m+1,b,rfl,rfl,⟨m,rfl⟩,byOmega,hb,HGG.out,rfl⟩
 case round =>
  clear HGG;obtain⟨x,y,rfl,rfl,hq,hx,hy,hg,rfl⟩:=hrel;have HQ:=Ag hq;have HGX:=Ag hg;have hx1:1≤x:=by obtain⟨q,hq⟩:=hq;omega
  clear hq hg;by_cases h0:y=0
  ·have HF:=Ag (show x=G by rw[HGX.out,h0,Nat.gcd_zero_right]);subst h0;obtain⟨j,n,hj⟩:∃ jj nn:Nat,b=2 ^ jj*(2*nn+1):=by
    obtain⟨n,h1,_⟩:=Lib.ctzFrom_spec 64 b byOmega byOmega;exact⟨_,n,h1⟩
   have hfin:x*2 ^ s=Nat.gcd a b:=by rw[HF.out,HGO.out];exact HG.out j n hj
   have hle:Nat.gcd a b≤a:=Nat.gcd_le_left _ byOmega;have HE:=Ag hfin;clear hj hfin;go_wp2
   go_ret;refine⟨_,rfl,Below.refl _ _,?_⟩;show Value.int .u64 (IntKind.u64.wrap ((x:Int)*2 ^ s))=_;rw[← HE.out,IntKind.wrap_u64];have hx2:((x:Int)*2 ^ s)=((x*2 ^ s:Nat):Int):=aB;rw[hx2];have:=HE.out;congr 1;omega
  ·have hd:((y:Int) != 0)=true:=aF;go_wp2_with fail
   refine(afo y byOmega h0 _ hT).mono ?_;rintro e w' ⟨k,n,rfl,rfl,hk,hk64⟩;have HK:=Ag hk;clear hk;have hyn:2*n+1≤y:=by have h:=HK.out;have:1*(2*n+1)≤2 ^ k*(2*n+1):=Nat.mul_le_mul_right _ (Nat.pow_pos ay);omega
   have hyq:(y:Int) / 2 ^ k=((2*n+1:Nat):Int):=by rw[HK.out];exact_mod_cast agp hk64
   have HYQ:=Ag hyq; clear hyq;have HGN:=Ag (show G=Nat.gcd x (2*n+1) by
    obtain⟨q,hq⟩:=HQ.out;rw[HGX.out,hq,HK.out]; exact zB k q (2*n+1))
   obtain⟨z,hz⟩:=named (2*n+1);have HZ:=Ag hz;rw[← hz] at hyn HYQ HGN;clear hz;have hzx:z < 1000000000000000000:=byOmega;have HZO:=Ag (show ∃ q,z=2*q+1 from⟨n,HZ.out⟩);by_cases hlt:z < x
   ·have hd2:decide ((y:Int) / 2 ^ k < (x:Int))=true:=by rw[HYQ.out];exact decide_eq_true byOmega
    have HGE:=Ag (show G=Nat.gcd z (x - z) by rw[HGN.out,Nat.gcd_comm]; exact(Nat.gcd_sub_self_right (Nat.le_of_lt hlt)).symm);dsimp only;go_wp2_with fail
    rw[HYQ.out];refine⟨⟨z,x - z,rfl,?_,HZO.out,hzx,byOmega,HGE.out,trivial⟩,?_⟩
    ·congr 1; rw[IntKind.wrap_u64]; omega
    ·simp only[intOf];rw[IntKind.wrap_u64];omega
   ·have hd2:decide ((y:Int) / 2 ^ k < (x:Int))=false:=by rw[HYQ.out];exact decide_eq_false byOmega
    have HGE:=Ag (show G=Nat.gcd x (z - x) by rw[HGN.out]; exact(Nat.gcd_sub_self_right byOmega).symm);dsimp only;go_wp2_with fail
    rw[HYQ.out];refine⟨⟨x,z - x,rfl,?_,HQ.out,hx,byOmega,HGE.out,trivial⟩,?_⟩
    ·congr 1; rw[IntKind.wrap_u64]; omega
    ·simp only[intOf];rw[IntKind.wrap_u64];omega
theorem uZ (w:World) (a b:Nat) (ha:a < 1000000000000000000) (hb:b < 1000000000000000000) (hT:Bz w) :
  Calls Tryz.prog 154 #[.int .u64 (a:Int),.int .u64 (b:Int)] w (Ret w fun v _=>v = .int .u64 (Nat.gcd a b:Int)):=by
 by_cases ha0:a=0
 ·subst ha0;have HG:=Ag (Nat.gcd_zero_left b);go_in;go_wp2
  go_ret;exact⟨_,rfl,Below.refl _ _,by rw[HG.out]; rfl⟩
 by_cases hb0:b=0
 ·subst hb0;have HG:=Ag (Nat.gcd_zero_right a);have ea:((a:Int)==0)=false:=beq_false_of_ne byOmega;go_in;go_wp2
  go_ret;exact⟨_,rfl,Below.refl _ _,by rw[HG.out]; rfl⟩
 exact adS w a b ha hb ha0 hb0 hT
end Go.Proofs.YtnmeejofpkhlkaaGreatDoor
