/- Words, Append, RowSet, RowMore, AppendAny, ShaMath, Basic, FrWords, WireMath, WireRdMath, WireBackMath -/
import Derived.WalkKit
import Derived.WalkSpells
import Derived.Lib.Hide
import Derived.Deep.QuietTactic
import Derived.BigQuiet
import Derived.StillTailTactics
import Derived.Laws.CopyOwn
import Derived.Maps.AppendAt
import Derived.Deep.LoopGhost
import Derived.Deep.Draws
import Derived.ArgAppend
import Derived.Deep.AppendLies
import Derived.Laws.OwnMore
import Derived.Test.YtfeipbgnjainlaaGreatDoorRows
set_option linter.unusedVariables false
set_option linter.unusedSimpArgs false
namespace Go.Proofs.YtfeipbgnjainlaaGreatDoor.K
open Go Go.RowKit
def B8(x:BitVec 8):Value:=.int .u8 (x.toNat:Int)
def W32(x:BitVec 32):Value:=.int .u32 (x.toNat:Int)
def W64(x:BitVec 64):Value:=.int .u64 (x.toNat:Int)
theorem B8_inj{x y:BitVec 8}(h:B8 x=B8 y):x=y:=by
 simp only[B8,Value.int.injEq,true_and]at h;exact BitVec.eq_of_toNat_eq (by omega)
theorem wrap_u8_nat(n:Nat):IntKind.u8.wrap (n:Int)=((BitVec.ofNat 8 n).toNat:Int):=by
 rw[IntKind.wrap_u8',BitVec.toNat_ofNat];omega
theorem wrap_u32_nat(n:Nat):IntKind.u32.wrap (n:Int)=((BitVec.ofNat 32 n).toNat:Int):=by
 rw[IntKind.wrap_u32',BitVec.toNat_ofNat];omega
theorem wrap_u64'(n:Int):IntKind.u64.wrap n=n % 18446744073709551616:=by simp[IntKind.wrap,IntKind.bits,IntKind.signed]
theorem wrap_u64_nat(n:Nat):IntKind.u64.wrap (n:Int)=((BitVec.ofNat 64 n).toNat:Int):=by
 rw[wrap_u64',BitVec.toNat_ofNat];omega
theorem ofNat_self{n:Nat}(x:BitVec n):BitVec.ofNat n x.toNat=x:=BitVec.eq_of_toNat_eq (by simp)
section
variable(t:TypeId)(x y:BitVec 32)
theorem ofInt_W32:BitVec.ofInt 32 (x.toNat:Int)=x:=by rw[BitVec.ofInt_natCast];exact ofNat_self x
theorem wrap_W32:IntKind.u32.wrap (x.toNat:Int)=(x.toNat:Int):=by rw[wrap_u32_nat,ofNat_self]
theorem W32_add:binOp .add t (W32 x) (W32 y)=pure (W32 (x+y)):=by
 have h:IntKind.u32.wrap ((x.toNat:Int)+(y.toNat:Int))=((x+y).toNat:Int):=by
  rw[<-Int.natCast_add,wrap_u32_nat,BitVec.toNat_ofNat,BitVec.toNat_add]
 simp only[W32,binOp_add,Op.intArith,h]
theorem W32_mul:binOp .mul t (W32 x) (W32 y)=pure (W32 (x*y)):=by
 have h:IntKind.u32.wrap ((x.toNat:Int)*(y.toNat:Int))=((x*y).toNat:Int):=by
  rw[<-Int.natCast_mul,wrap_u32_nat,BitVec.toNat_ofNat,BitVec.toNat_mul]
 simp only[W32,binOp_mul,Op.intArith,h]
theorem W32_xor:binOp .xor t (W32 x) (W32 y)=pure (W32 (x ^^^ y)):=by
 have h:bits .xor .u32 (x.toNat:Int) (y.toNat:Int)=((x ^^^ y).toNat:Int):=by
  show IntKind.u32.wrap ((BitVec.ofInt 32 (x.toNat:Int) ^^^ BitVec.ofInt 32 (y.toNat:Int)).toNat:Int)=_
  rw[ofInt_W32,ofInt_W32,wrap_W32]
 simp only[W32,binOp_xor,intBits_xor,h]
theorem W32_and:binOp .and t (W32 x) (W32 y)=pure (W32 (x &&& y)):=by
 have h:bits .and .u32 (x.toNat:Int) (y.toNat:Int)=((x &&& y).toNat:Int):=by
  show IntKind.u32.wrap ((BitVec.ofInt 32 (x.toNat:Int) &&& BitVec.ofInt 32 (y.toNat:Int)).toNat:Int)=_
  rw[ofInt_W32,ofInt_W32,wrap_W32]
 simp only[W32,binOp_and,intBits_and,h]
theorem W32_or:binOp .or t (W32 x) (W32 y)=pure (W32 (x ||| y)):=by
 have h:bits .or .u32 (x.toNat:Int) (y.toNat:Int)=((x ||| y).toNat:Int):=by
  show IntKind.u32.wrap ((BitVec.ofInt 32 (x.toNat:Int) ||| BitVec.ofInt 32 (y.toNat:Int)).toNat:Int)=_
  rw[ofInt_W32,ofInt_W32,wrap_W32]
 simp only[W32,binOp_or,intBits_or,h]
theorem W32_shl'(yk:IntKind)(c:Nat):binOp .shl t (W32 x) (.int yk (c:Int))=pure (W32 (x <<< c)):=by
 have h:IntKind.u32.wrap ((x.toNat:Int)*2 ^ min c 32)=((x <<< c).toNat:Int):=by
  have e:((x.toNat:Int)*2 ^ min c 32)=((x.toNat*2 ^ min c 32:Nat):Int):=by simp
  rw[e,wrap_u32_nat,BitVec.toNat_ofNat,BitVec.toNat_shiftLeft,Nat.shiftLeft_eq];rcases Nat.le_total c 32 with hc|hc
  ·rw[Nat.min_eq_left hc]
  ·rw[Nat.min_eq_right hc,Nat.mul_mod_left,show c=32+(c-32)by omega,Nat.pow_add,Nat.mul_comm (2 ^ 32),<-Nat.mul_assoc,Nat.mul_mod_left]
 rw[show binOp .shl t (W32 x) (.int yk (c:Int))=Op.shift .shl .u32 (x.toNat:Int) yk (c:Int)from rfl,shift_shl_any _ _ _ _ (Int.natCast_nonneg c)];simp only[Int.toNat_natCast,IntKind.bits,h,W32]
theorem W32_shl(yk:IntKind)(c:Int)(hc:0<=c):binOp .shl t (W32 x) (.int yk c)=pure (W32 (x <<< c.toNat)):=by
 obtain⟨c,rfl⟩:=Int.eq_ofNat_of_zero_le hc;simpa using W32_shl' t x yk c
theorem W32_shr'(yk:IntKind)(c:Nat):binOp .shr t (W32 x) (.int yk (c:Int))=pure (W32 (x >>> c)):=by
 have h:(x.toNat:Int)/2 ^ min c 32=((x >>> c).toNat:Int):=by
  have e:((x.toNat:Int)/2 ^ min c 32)=((x.toNat/2 ^ min c 32:Nat):Int):=by simp
  rw[e,BitVec.toNat_ushiftRight,Nat.shiftRight_eq_div_pow];rcases Nat.le_total c 32 with hc|hc
  ·rw[Nat.min_eq_left hc]
  ·have hx:=x.isLt
   have h2:2 ^ 32<=2 ^ c:=Nat.pow_le_pow_right (by omega) hc;rw[Nat.min_eq_right hc,Nat.div_eq_of_lt (by omega),Nat.div_eq_of_lt (by omega)]
 rw[show binOp .shr t (W32 x) (.int yk (c:Int))=Op.shift .shr .u32 (x.toNat:Int) yk (c:Int)from rfl,shift_shr_any _ _ _ _ (Int.natCast_nonneg c)];simp only[Int.toNat_natCast,IntKind.bits,h,W32]
theorem W32_shr(yk:IntKind)(c:Int)(hc:0<=c):binOp .shr t (W32 x) (.int yk c)=pure (W32 (x >>> c.toNat)):=by
 obtain⟨c,rfl⟩:=Int.eq_ofNat_of_zero_le hc;simpa using W32_shr' t x yk c
theorem W32_eql:binOp .eql t (W32 x) (W32 y)=pure (.bool (x==y)):=by
 have h:((x.toNat:Int)==(y.toNat:Int))=(x==y):=by
  rw[Bool.eq_iff_iff,beq_iff_eq,beq_iff_eq];exact⟨fun h=>BitVec.eq_of_toNat_eq (by omega),fun h=>by rw[h]⟩
 simp only[W32,binOp_eql,h]
theorem W32_neq:binOp .neq t (W32 x) (W32 y)=pure (.bool (x != y)):=by
 have h:((x.toNat:Int) != (y.toNat:Int))=(x != y):=by
  rw[Bool.eq_iff_iff,bne_iff_ne,bne_iff_ne];exact⟨fun h e=>h (by rw[e]),fun h e=>h (BitVec.eq_of_toNat_eq (by omega))⟩
 simp only[W32,binOp_neq,h]
theorem eqGuard_W32(op:BinOp)(a b:Operand)(v:Value):eqGuard op t a b (W32 x) v=pure ():=eqGuard_at_int op t a b v _ _
theorem run_store_W32(P:Program)(w:World)(a:Addr)(m:Mode):(store a (W32 x) m).run P w=stored P w a (W32 x) m:=run_store P w a _ m rfl
end
section
variable(t:TypeId)(x y:BitVec 64)
theorem ofInt_W64:BitVec.ofInt 64 (x.toNat:Int)=x:=by rw[BitVec.ofInt_natCast];exact ofNat_self x
theorem wrap_W64:IntKind.u64.wrap (x.toNat:Int)=(x.toNat:Int):=by rw[wrap_u64_nat,ofNat_self]
theorem W64_add:binOp .add t (W64 x) (W64 y)=pure (W64 (x+y)):=by
 have h:IntKind.u64.wrap ((x.toNat:Int)+(y.toNat:Int))=((x+y).toNat:Int):=by
  rw[<-Int.natCast_add,wrap_u64_nat,BitVec.toNat_ofNat,BitVec.toNat_add]
 simp only[W64,binOp_add,Op.intArith,h]
theorem W64_mul:binOp .mul t (W64 x) (W64 y)=pure (W64 (x*y)):=by
 have h:IntKind.u64.wrap ((x.toNat:Int)*(y.toNat:Int))=((x*y).toNat:Int):=by
  rw[<-Int.natCast_mul,wrap_u64_nat,BitVec.toNat_ofNat,BitVec.toNat_mul]
 simp only[W64,binOp_mul,Op.intArith,h]
theorem W64_xor:binOp .xor t (W64 x) (W64 y)=pure (W64 (x ^^^ y)):=by
 have h:bits .xor .u64 (x.toNat:Int) (y.toNat:Int)=((x ^^^ y).toNat:Int):=by
  show IntKind.u64.wrap ((BitVec.ofInt 64 (x.toNat:Int) ^^^ BitVec.ofInt 64 (y.toNat:Int)).toNat:Int)=_
  rw[ofInt_W64,ofInt_W64,wrap_W64]
 simp only[W64,binOp_xor,intBits_xor,h]
theorem W64_and:binOp .and t (W64 x) (W64 y)=pure (W64 (x &&& y)):=by
 have h:bits .and .u64 (x.toNat:Int) (y.toNat:Int)=((x &&& y).toNat:Int):=by
  show IntKind.u64.wrap ((BitVec.ofInt 64 (x.toNat:Int) &&& BitVec.ofInt 64 (y.toNat:Int)).toNat:Int)=_
  rw[ofInt_W64,ofInt_W64,wrap_W64]
 simp only[W64,binOp_and,intBits_and,h]
theorem W64_or:binOp .or t (W64 x) (W64 y)=pure (W64 (x ||| y)):=by
 have h:bits .or .u64 (x.toNat:Int) (y.toNat:Int)=((x ||| y).toNat:Int):=by
  show IntKind.u64.wrap ((BitVec.ofInt 64 (x.toNat:Int) ||| BitVec.ofInt 64 (y.toNat:Int)).toNat:Int)=_
  rw[ofInt_W64,ofInt_W64,wrap_W64]
 simp only[W64,binOp_or,intBits_or,h]
theorem W64_shl'(yk:IntKind)(c:Nat):binOp .shl t (W64 x) (.int yk (c:Int))=pure (W64 (x <<< c)):=by
 have h:IntKind.u64.wrap ((x.toNat:Int)*2 ^ min c 64)=((x <<< c).toNat:Int):=by
  have e:((x.toNat:Int)*2 ^ min c 64)=((x.toNat*2 ^ min c 64:Nat):Int):=by simp
  rw[e,wrap_u64_nat,BitVec.toNat_ofNat,BitVec.toNat_shiftLeft,Nat.shiftLeft_eq];rcases Nat.le_total c 64 with hc|hc
  ·rw[Nat.min_eq_left hc]
  ·rw[Nat.min_eq_right hc,Nat.mul_mod_left,show c=64+(c-64)by omega,Nat.pow_add,Nat.mul_comm (2 ^ 64),<-Nat.mul_assoc,Nat.mul_mod_left]
 rw[show binOp .shl t (W64 x) (.int yk (c:Int))=Op.shift .shl .u64 (x.toNat:Int) yk (c:Int)from rfl,shift_shl_any _ _ _ _ (Int.natCast_nonneg c)];simp only[Int.toNat_natCast,IntKind.bits,h,W64]
theorem W64_shl(yk:IntKind)(c:Int)(hc:0<=c):binOp .shl t (W64 x) (.int yk c)=pure (W64 (x <<< c.toNat)):=by
 obtain⟨c,rfl⟩:=Int.eq_ofNat_of_zero_le hc;simpa using W64_shl' t x yk c
theorem W64_shr'(yk:IntKind)(c:Nat):binOp .shr t (W64 x) (.int yk (c:Int))=pure (W64 (x >>> c)):=by
 have h:(x.toNat:Int)/2 ^ min c 64=((x >>> c).toNat:Int):=by
  have e:((x.toNat:Int)/2 ^ min c 64)=((x.toNat/2 ^ min c 64:Nat):Int):=by simp
  rw[e,BitVec.toNat_ushiftRight,Nat.shiftRight_eq_div_pow];rcases Nat.le_total c 64 with hc|hc
  ·rw[Nat.min_eq_left hc]
  ·have hx:=x.isLt
   have h2:2 ^ 64<=2 ^ c:=Nat.pow_le_pow_right (by omega) hc;rw[Nat.min_eq_right hc,Nat.div_eq_of_lt (by omega),Nat.div_eq_of_lt (by omega)]
 rw[show binOp .shr t (W64 x) (.int yk (c:Int))=Op.shift .shr .u64 (x.toNat:Int) yk (c:Int)from rfl,shift_shr_any _ _ _ _ (Int.natCast_nonneg c)];simp only[Int.toNat_natCast,IntKind.bits,h,W64]
theorem W64_shr(yk:IntKind)(c:Int)(hc:0<=c):binOp .shr t (W64 x) (.int yk c)=pure (W64 (x >>> c.toNat)):=by
 obtain⟨c,rfl⟩:=Int.eq_ofNat_of_zero_le hc;simpa using W64_shr' t x yk c
theorem W64_eql:binOp .eql t (W64 x) (W64 y)=pure (.bool (x==y)):=by
 have h:((x.toNat:Int)==(y.toNat:Int))=(x==y):=by
  rw[Bool.eq_iff_iff,beq_iff_eq,beq_iff_eq];exact⟨fun h=>BitVec.eq_of_toNat_eq (by omega),fun h=>by rw[h]⟩
 simp only[W64,binOp_eql,h]
theorem W64_neq:binOp .neq t (W64 x) (W64 y)=pure (.bool (x != y)):=by
 have h:((x.toNat:Int) != (y.toNat:Int))=(x != y):=by
  rw[Bool.eq_iff_iff,bne_iff_ne,bne_iff_ne];exact⟨fun h e=>h (by rw[e]),fun h e=>h (BitVec.eq_of_toNat_eq (by omega))⟩
 simp only[W64,binOp_neq,h]
theorem eqGuard_W64(op:BinOp)(a b:Operand)(v:Value):eqGuard op t a b (W64 x) v=pure ():=eqGuard_at_int op t a b v _ _
theorem run_store_W64(P:Program)(w:World)(a:Addr)(m:Mode):(store a (W64 x) m).run P w=stored P w a (W64 x) m:=run_store P w a _ m rfl
end
section
variable(t:TypeId)(x y:BitVec 8)
theorem ofInt_B8:BitVec.ofInt 8 (x.toNat:Int)=x:=by rw[BitVec.ofInt_natCast];exact ofNat_self x
theorem wrap_B8:IntKind.u8.wrap (x.toNat:Int)=(x.toNat:Int):=by rw[wrap_u8_nat,ofNat_self]
theorem B8_add:binOp .add t (B8 x) (B8 y)=pure (B8 (x+y)):=by
 have h:IntKind.u8.wrap ((x.toNat:Int)+(y.toNat:Int))=((x+y).toNat:Int):=by
  rw[<-Int.natCast_add,wrap_u8_nat,BitVec.toNat_ofNat,BitVec.toNat_add]
 simp only[B8,binOp_add,Op.intArith,h]
theorem B8_mul:binOp .mul t (B8 x) (B8 y)=pure (B8 (x*y)):=by
 have h:IntKind.u8.wrap ((x.toNat:Int)*(y.toNat:Int))=((x*y).toNat:Int):=by
  rw[<-Int.natCast_mul,wrap_u8_nat,BitVec.toNat_ofNat,BitVec.toNat_mul]
 simp only[B8,binOp_mul,Op.intArith,h]
theorem B8_xor:binOp .xor t (B8 x) (B8 y)=pure (B8 (x ^^^ y)):=by
 have h:bits .xor .u8 (x.toNat:Int) (y.toNat:Int)=((x ^^^ y).toNat:Int):=by
  show IntKind.u8.wrap ((BitVec.ofInt 8 (x.toNat:Int) ^^^ BitVec.ofInt 8 (y.toNat:Int)).toNat:Int)=_
  rw[ofInt_B8,ofInt_B8,wrap_B8]
 simp only[B8,binOp_xor,intBits_xor,h]
theorem B8_and:binOp .and t (B8 x) (B8 y)=pure (B8 (x &&& y)):=by
 have h:bits .and .u8 (x.toNat:Int) (y.toNat:Int)=((x &&& y).toNat:Int):=by
  show IntKind.u8.wrap ((BitVec.ofInt 8 (x.toNat:Int) &&& BitVec.ofInt 8 (y.toNat:Int)).toNat:Int)=_
  rw[ofInt_B8,ofInt_B8,wrap_B8]
 simp only[B8,binOp_and,intBits_and,h]
theorem B8_or:binOp .or t (B8 x) (B8 y)=pure (B8 (x ||| y)):=by
 have h:bits .or .u8 (x.toNat:Int) (y.toNat:Int)=((x ||| y).toNat:Int):=by
  show IntKind.u8.wrap ((BitVec.ofInt 8 (x.toNat:Int) ||| BitVec.ofInt 8 (y.toNat:Int)).toNat:Int)=_
  rw[ofInt_B8,ofInt_B8,wrap_B8]
 simp only[B8,binOp_or,intBits_or,h]
theorem B8_shl'(yk:IntKind)(c:Nat):binOp .shl t (B8 x) (.int yk (c:Int))=pure (B8 (x <<< c)):=by
 have h:IntKind.u8.wrap ((x.toNat:Int)*2 ^ min c 8)=((x <<< c).toNat:Int):=by
  have e:((x.toNat:Int)*2 ^ min c 8)=((x.toNat*2 ^ min c 8:Nat):Int):=by simp
  rw[e,wrap_u8_nat,BitVec.toNat_ofNat,BitVec.toNat_shiftLeft,Nat.shiftLeft_eq];rcases Nat.le_total c 8 with hc|hc
  ·rw[Nat.min_eq_left hc]
  ·rw[Nat.min_eq_right hc,Nat.mul_mod_left,show c=8+(c-8)by omega,Nat.pow_add,Nat.mul_comm (2 ^ 8),<-Nat.mul_assoc,Nat.mul_mod_left]
 rw[show binOp .shl t (B8 x) (.int yk (c:Int))=Op.shift .shl .u8 (x.toNat:Int) yk (c:Int)from rfl,shift_shl_any _ _ _ _ (Int.natCast_nonneg c)];simp only[Int.toNat_natCast,IntKind.bits,h,B8]
theorem B8_shl(yk:IntKind)(c:Int)(hc:0<=c):binOp .shl t (B8 x) (.int yk c)=pure (B8 (x <<< c.toNat)):=by
 obtain⟨c,rfl⟩:=Int.eq_ofNat_of_zero_le hc;simpa using B8_shl' t x yk c
theorem B8_shr'(yk:IntKind)(c:Nat):binOp .shr t (B8 x) (.int yk (c:Int))=pure (B8 (x >>> c)):=by
 have h:(x.toNat:Int)/2 ^ min c 8=((x >>> c).toNat:Int):=by
  have e:((x.toNat:Int)/2 ^ min c 8)=((x.toNat/2 ^ min c 8:Nat):Int):=by simp
  rw[e,BitVec.toNat_ushiftRight,Nat.shiftRight_eq_div_pow];rcases Nat.le_total c 8 with hc|hc
  ·rw[Nat.min_eq_left hc]
  ·have hx:=x.isLt
   have h2:2 ^ 8<=2 ^ c:=Nat.pow_le_pow_right (by omega) hc;rw[Nat.min_eq_right hc,Nat.div_eq_of_lt (by omega),Nat.div_eq_of_lt (by omega)]
 rw[show binOp .shr t (B8 x) (.int yk (c:Int))=Op.shift .shr .u8 (x.toNat:Int) yk (c:Int)from rfl,shift_shr_any _ _ _ _ (Int.natCast_nonneg c)];simp only[Int.toNat_natCast,IntKind.bits,h,B8]
theorem B8_shr(yk:IntKind)(c:Int)(hc:0<=c):binOp .shr t (B8 x) (.int yk c)=pure (B8 (x >>> c.toNat)):=by
 obtain⟨c,rfl⟩:=Int.eq_ofNat_of_zero_le hc;simpa using B8_shr' t x yk c
theorem B8_eql:binOp .eql t (B8 x) (B8 y)=pure (.bool (x==y)):=by
 have h:((x.toNat:Int)==(y.toNat:Int))=(x==y):=by
  rw[Bool.eq_iff_iff,beq_iff_eq,beq_iff_eq];exact⟨fun h=>BitVec.eq_of_toNat_eq (by omega),fun h=>by rw[h]⟩
 simp only[B8,binOp_eql,h]
theorem B8_neq:binOp .neq t (B8 x) (B8 y)=pure (.bool (x != y)):=by
 have h:((x.toNat:Int) != (y.toNat:Int))=(x != y):=by
  rw[Bool.eq_iff_iff,bne_iff_ne,bne_iff_ne];exact⟨fun h e=>h (by rw[e]),fun h e=>h (BitVec.eq_of_toNat_eq (by omega))⟩
 simp only[B8,binOp_neq,h]
theorem eqGuard_B8(op:BinOp)(a b:Operand)(v:Value):eqGuard op t a b (B8 x) v=pure ():=eqGuard_at_int op t a b v _ _
theorem run_store_B8(P:Program)(w:World)(a:Addr)(m:Mode):(store a (B8 x) m).run P w=stored P w a (B8 x) m:=run_store P w a _ m rfl
end
section
variable{P:Program}(w:World)(src dst:TypeId)
theorem conv_B8_W32(x:BitVec 8)(hs:P.underlying src=some (.int .u8))(hd:P.underlying dst=some (.int .u32)):(convert src dst (B8 x)).run P w=.ok (W32 (x.setWidth 32)) w:=by
 have h:IntKind.u32.wrap (x.toNat:Int)=((x.setWidth 32).toNat:Int):=by
  rw[wrap_u32_nat,BitVec.toNat_ofNat,BitVec.toNat_setWidth]
 simp[convert,run_underlying hs,run_underlying hd,Conv.intToInt,B8,W32,h]
theorem conv_B8_W64(x:BitVec 8)(hs:P.underlying src=some (.int .u8))(hd:P.underlying dst=some (.int .u64)):(convert src dst (B8 x)).run P w=.ok (W64 (x.setWidth 64)) w:=by
 have h:IntKind.u64.wrap (x.toNat:Int)=((x.setWidth 64).toNat:Int):=by
  rw[wrap_u64_nat,BitVec.toNat_ofNat,BitVec.toNat_setWidth]
 simp[convert,run_underlying hs,run_underlying hd,Conv.intToInt,B8,W64,h]
theorem conv_W32_B8(x:BitVec 32)(hs:P.underlying src=some (.int .u32))(hd:P.underlying dst=some (.int .u8)):(convert src dst (W32 x)).run P w=.ok (B8 (x.setWidth 8)) w:=by
 have h:IntKind.u8.wrap (x.toNat:Int)=((x.setWidth 8).toNat:Int):=by
  rw[wrap_u8_nat,BitVec.toNat_ofNat,BitVec.toNat_setWidth]
 simp[convert,run_underlying hs,run_underlying hd,Conv.intToInt,B8,W32,h]
theorem conv_W64_B8(x:BitVec 64)(hs:P.underlying src=some (.int .u64))(hd:P.underlying dst=some (.int .u8)):(convert src dst (W64 x)).run P w=.ok (B8 (x.setWidth 8)) w:=by
 have h:IntKind.u8.wrap (x.toNat:Int)=((x.setWidth 8).toNat:Int):=by
  rw[wrap_u8_nat,BitVec.toNat_ofNat,BitVec.toNat_setWidth]
 simp[convert,run_underlying hs,run_underlying hd,Conv.intToInt,B8,W64,h]
end
theorem cells_B8(x:BitVec 8):(B8 x).cells = #[B8 x]:=rfl
theorem cells_W32(x:BitVec 32):(W32 x).cells = #[W32 x]:=rfl
theorem cells_W64(x:BitVec 64):(W64 x).cells = #[W64 x]:=rfl
attribute [go_sem ↓ high] cells_B8 cells_W32 cells_W64
theorem run_storeCells_B8(P:Program)(w:World)(a:Addr)(x:BitVec 8):(storeCells a [B8 x] 0).run P w=stored P w a (B8 x) .plain:=by
 have e:(storeCells a [B8 x] 0)=(do store (a.add 0) (B8 x);pure ()):=rfl;rw[e];simp only[Sem.run_bind,run_store_B8,Addr.add_zero'];cases stored P w a (B8 x) .plain<;>simp[Result.andThen]
attribute [go_sem] run_storeCells_B8
theorem run_storeCells_W32(P:Program)(w:World)(a:Addr)(x:BitVec 32):(storeCells a [W32 x] 0).run P w=stored P w a (W32 x) .plain:=by
 have e:(storeCells a [W32 x] 0)=(do store (a.add 0) (W32 x);pure ()):=rfl;rw[e];simp only[Sem.run_bind,run_store_W32,Addr.add_zero'];cases stored P w a (W32 x) .plain<;>simp[Result.andThen]
attribute [go_sem] run_storeCells_W32
theorem run_storeCells_W64(P:Program)(w:World)(a:Addr)(x:BitVec 64):(storeCells a [W64 x] 0).run P w=stored P w a (W64 x) .plain:=by
 have e:(storeCells a [W64 x] 0)=(do store (a.add 0) (W64 x);pure ()):=rfl;rw[e];simp only[Sem.run_bind,run_store_W64,Addr.add_zero'];cases stored P w a (W64 x) .plain<;>simp[Result.andThen]
attribute [go_sem] run_storeCells_W64
attribute [go_sem] conv_B8_W32 conv_B8_W64 conv_W32_B8 conv_W64_B8
attribute [go_sem] W32_add W32_mul W32_xor W32_and W32_or W32_shl W32_shr W32_eql W32_neq eqGuard_W32 run_store_W32
attribute [go_sem] W64_add W64_mul W64_xor W64_and W64_or W64_shl W64_shr W64_eql W64_neq eqGuard_W64 run_store_W64
attribute [go_sem] B8_add B8_mul B8_xor B8_and B8_or B8_shl B8_shr B8_eql B8_neq eqGuard_B8 run_store_B8
def Rd(w:World)(A:Option Addr)(bs:List (BitVec 8)):Prop :=
 ∀k (h:k<bs.length),∃b o,A=some ⟨b,o,none⟩/\w.cell? ⟨b,o+k,none⟩=some (B8 bs[k])
theorem Rd.of_nil(w:World)(A:Option Addr):Rd w A []:=fun _ h=>absurd h (Nat.not_lt_zero _)
theorem Rd.drewN{w:World}{A:Option Addr}{bs:List (BitVec 8)}(h:Rd w A bs)(n:Nat):Rd (w.drewN n) A bs:=h
theorem Rd.below{w w':World}{A:Option Addr}{bs:List (BitVec 8)}(h:Rd w A bs)(hb:Below w.heap.size w w'):Rd w' A bs:=fun k hk=>by
 obtain⟨b,o,e,hc⟩:=h k hk;exact⟨b,o,e,(hb.cell (block_lt_of_cell hc)).trans hc⟩
def bv(bs:List (BitVec 8)):List Value:=bs.map B8
theorem bv_length(bs:List (BitVec 8)):(bv bs).length=bs.length:=by simp[bv]
theorem bv_append(a b:List (BitVec 8)):bv (a++b)=bv a++bv b:=by simp[bv]
theorem bv_one(bs:List (BitVec 8)):∀u∈bv bs,u.oneCell'=true:=by
 intro u hu;obtain⟨_,_,rfl⟩:=List.mem_map.1 hu;rfl
theorem Rd.cells{w:World}{A:Option Addr}{bs:List (BitVec 8)}(h:Rd w A bs):∀ad,A=some ad->∀j u,(bv bs)[j]?=some u->w.cell? (ad.add j)=some u:=by
 intro ad had j u hu
 have hj:j<bs.length:=by
  have:=(List.getElem?_eq_some_iff.1 hu).1;simpa [bv]using this
 obtain⟨b,o,e,hc⟩:=h j hj;rw[had]at e;obtain rfl:=Option.some.inj e;rw[Addr.add_lit,hc];simpa [bv,List.getElem?_eq_getElem hj]using hu
theorem Rd.empty{w:World}{bs:List (BitVec 8)}(h:Rd w none bs):bs=[]:=by
 rcases bs with _|⟨x,r⟩
 ·rfl
 ·obtain⟨b,o,e,_⟩:=h 0 (by simp)
  cases e
theorem Rd.of_block{w:World}{g:Nat}{cur:Array Value}{t:TypeId}{fr:Nat×Nat}{bs:List (BitVec 8)}(hg:w.heap[g]?=some (.cells cur t fr))(h:cur.toList.take bs.length=bv bs):Rd w (some ⟨g,0,none⟩) bs:=by
 intro k hk;refine⟨g,0,rfl,?_⟩;rw[cell_of_row w g (0+k) cur t fr hg,Nat.zero_add];have e:(cur.toList.take bs.length)[k]?=cur[k]?:=by rw[List.getElem?_take,if_pos hk];simp
 rw[<-e,h];simp[bv,hk]
theorem Rd.of_own{w:World}{base:Nat}{e:TypeId}{A:Option Addr}{n c:Nat}{bs:List (BitVec 8)}(h:w.ownsRow base e 1 (.slice A n c) n (bv bs)):Rd w A bs:=by
 rcases h.2 with⟨h1,h2⟩|⟨g,cap,cur,hv,_,hg,_,_,_,ht⟩
 ·have:bs.length=n:=by have:=h.1;rw[bv_length]at this;omega
  rw[show bs=[]from List.eq_nil_of_length_eq_zero (by omega)];exact Rd.of_nil _ _
 ·simp only[Value.slice.injEq]at hv
  obtain⟨rfl,_,_⟩:=hv;have hl:n*1=bs.length:=by have:=h.1;rw[bv_length]at this;omega
  rw[hl]at ht;exact Rd.of_block hg ht
theorem own_full{w:World}{base:Nat}{e:TypeId}{g n:Nat}{xs:List Value}(h:w.ownsRow base e 1 (.slice (some ⟨g,0,none⟩) n n) n xs):base<=g/\w.heap[g]?=some (.cells xs.toArray e (0,0)):=by
 rcases h.2 with⟨h1,_⟩|⟨g',cap,cur,hv,hb,hg,_,_,hs,ht⟩
 ·simp at h1
 ·simp only[Value.slice.injEq,Option.some.injEq,Addr.mk.injEq,and_true,true_and]at hv
  obtain⟨rfl,rfl⟩:=hv;refine⟨hb,?_⟩;rw[hg,<-ht,List.take_of_length_le (by simp;omega)]
theorem q_add{P:Program}{f:FuncId}{args:Array Value}{w:World}{v:Value}{a n:Nat}
  (h:Calls P f args (w.drewN (a+n)) fun e w'=>e=.returned v/\w.drewN (a+n)=w'):Calls P f args (w.drewN (a+n)) fun e w''=>e=.returned v/\∃m,w''=w.drewN (a+m) :=
 h.mono fun _ _ ⟨he,hm⟩=>⟨he,n,hm.symm⟩
section
variable{P:Program}
end
theorem block_cell{w:World}{g:Nat}{xs:List Value}{t:TypeId}{fr:Nat×Nat}(hg:w.heap[g]?=some (.cells xs.toArray t fr)){i:Nat}{v:Value}(h:xs[i]?=some v):w.cell? ⟨g,i,Option.none⟩=some v:=by
 rw[cell_of_row w g i _ _ _ hg,List.getElem?_toArray,h]
theorem below_drewN{B:Nat}{a w:World}(h:Below B a w)(n:Nat):Below B a (w.drewN n):=⟨h.os,h.tape,h.output,h.size,h.block⟩
theorem W32_not(x:BitVec 32):Op.unary .xor (W32 x)=pure (W32 (~~~x)):=by
 have h:bits .xor .u32 (4294967295:Int) (x.toNat:Int)=((~~~x).toNat:Int):=by
  show IntKind.u32.wrap ((BitVec.ofInt 32 4294967295 ^^^ BitVec.ofInt 32 (x.toNat:Int)).toNat:Int)=_
  have e:BitVec.ofInt 32 4294967295=BitVec.allOnes 32:=by decide
  rw[ofInt_W32,e,BitVec.allOnes_xor,wrap_W32]
 show Op.intBits .xor .u32 (if IntKind.u32.signed then -1 else IntKind.u32.max) (x.toNat:Int)=_
 rw[intBits_xor];have e2:(if IntKind.u32.signed then(-1:Int)else IntKind.u32.max)=4294967295:=by decide
 rw[e2,h];rfl
attribute [go_sem] W32_not
theorem B8_lss(t:TypeId)(x y:BitVec 8):binOp .lss t (B8 x) (B8 y)=pure (.bool (decide (x<y))):=by
 have h:decide ((x.toNat:Int)<(y.toNat:Int))=decide (x<y):=by
  rw[decide_eq_decide,BitVec.lt_def];omega
 simp only[B8,binOp_lss,h]
theorem B8_gtr(t:TypeId)(x y:BitVec 8):binOp .gtr t (B8 x) (B8 y)=pure (.bool (decide (y<x))):=by
 have h:decide ((x.toNat:Int) > (y.toNat:Int))=decide (y<x):=by
  rw[decide_eq_decide,BitVec.lt_def];omega
 simp only[B8,binOp_gtr,h]
attribute [go_sem] B8_lss B8_gtr
theorem W32_lss(t:TypeId)(x y:BitVec 32):binOp .lss t (W32 x) (W32 y)=pure (.bool (decide (x<y))):=by
 have h:decide ((x.toNat:Int)<(y.toNat:Int))=decide (x<y):=by
  rw[decide_eq_decide,BitVec.lt_def];omega
 simp only[W32,binOp_lss,h]
theorem W32_gtr(t:TypeId)(x y:BitVec 32):binOp .gtr t (W32 x) (W32 y)=pure (.bool (decide (y<x))):=by
 have h:decide ((x.toNat:Int) > (y.toNat:Int))=decide (y<x):=by
  rw[decide_eq_decide,BitVec.lt_def];omega
 simp only[W32,binOp_gtr,h]
attribute [go_sem] W32_lss W32_gtr
theorem W64_lss(t:TypeId)(x y:BitVec 64):binOp .lss t (W64 x) (W64 y)=pure (.bool (decide (x<y))):=by
 have h:decide ((x.toNat:Int)<(y.toNat:Int))=decide (x<y):=by
  rw[decide_eq_decide,BitVec.lt_def];omega
 simp only[W64,binOp_lss,h]
theorem W64_gtr(t:TypeId)(x y:BitVec 64):binOp .gtr t (W64 x) (W64 y)=pure (.bool (decide (y<x))):=by
 have h:decide ((x.toNat:Int) > (y.toNat:Int))=decide (y<x):=by
  rw[decide_eq_decide,BitVec.lt_def];omega
 simp only[W64,binOp_gtr,h]
attribute [go_sem] W64_lss W64_gtr
section
variable{P:Program}(w:World)
end
structure Rw where
 A:Option Addr
 n:Nat
 c:Nat
def Rw.v(x:Rw):Value:=.slice x.A x.n x.c
def Rw.blk(x:Rw):Option Nat:=x.v.ownBlock
def Rw.own(x:Rw)(w:World)(base:Nat)(e:TypeId)(bs:List (BitVec 8)):Prop:=w.ownsRow base e 1 x.v x.n (bv bs)
theorem Rw.own.len{x:Rw}{w:World}{base:Nat}{e:TypeId}{bs:List (BitVec 8)}(h:x.own w base e bs):bs.length=x.n:=by
 have:=h.1;rw[bv_length]at this;omega
theorem Rw.own.addr{x:Rw}{w:World}{base:Nat}{e:TypeId}{bs:List (BitVec 8)}(h:x.own w base e bs):(x.A=none/\x.n=0/\x.c=0)\/∃g,x.A=some ⟨g,0,none⟩/\x.blk=some g/\base<=g/\g<w.heap.size:=by
 rcases h.2 with⟨h1,h2⟩|⟨g,cap,cur,hv,hb,hg,_⟩
 ·left
  simp only[Rw.v,Value.slice.injEq]at h1;exact h1
 ·right
  simp only[Rw.v,Value.slice.injEq]at hv;exact⟨g,hv.1,by simp[Rw.blk,Rw.v,hv.1,Value.ownBlock],hb,(Array.getElem?_eq_some_iff.1 hg).1⟩
theorem Rw.own.kept{x:Rw}{w w':World}{base:Nat}{e:TypeId}{bs:List (BitVec 8)}{row:Option Nat}(h:x.own w base e bs)(hg:w.grownBy w' row)(hne:∀b,x.blk=some b->row≠some b):x.own w' base e bs:=by
 refine World.ownsRow.kept h hg ?_;cases hv:x.v.ownBlock with
 | none=>exact .inl rfl
 | some b=>exact .inr (fun e=>hne b hv e.symm)
def Grew(w w':World)(base:Nat)(e:TypeId)(x x':Rw)(m:Nat)(bs news:List (BitVec 8)):Prop :=
 x'.own w' base e (bs++news)/\x'.n=x.n+m /\
 ((x'.A=x.A/\x'.c=x.c/\∃g,x.A=some ⟨g,0,none⟩/\w.grownBy w' (some g))\/(∃g,x'.A=some ⟨g,0,none⟩/\w.heap.size<=g/\w.grownBy w' none))
theorem Grew.size{w w':World}{base:Nat}{e:TypeId}{x x':Rw}{m:Nat}{bs news:List (BitVec 8)}(h:Grew w w' base e x x' m bs news):w.heap.size<=w'.heap.size:=by
 rcases h.2.2 with⟨_,_,_,_,h⟩|⟨_,_,_,h⟩<;>exact h.size
theorem Grew.below{W w w':World}{base:Nat}{e:TypeId}{x x':Rw}{m:Nat}{bs news:List (BitVec 8)}(h:Grew w w' base e x x' m bs news)(hx:x.own w base e bs){B:Nat}(hB:B<=base)(hs:B<=w.heap.size)(hb:Below B W w):Below B W w':=by
 rcases h.2.2 with⟨_,_,g,hg,h⟩|⟨_,_,_,h⟩
 ·refine hb.grown h hs fun k hk=>?_
  cases hk
  rcases hx.addr with⟨h0,_⟩|⟨g',h0,_,h1,_⟩
  ·rw[h0]at hg;cases hg
  ·rw[h0]at hg;cases hg;omega
 ·exact hb.grown h hs fun k hk=>by cases hk
section
variable{P:Program}(w:World)
end
def upd{α:Type}(f:Nat -> α)(k:Nat)(x:α):Nat -> α:=fun j=>if j=k then x else f j
theorem upd_same{α:Type}(f:Nat -> α)(k:Nat)(x:α):upd f k x k=x:=by simp[upd]
theorem upd_other{α:Type}(f:Nat -> α)(k:Nat)(x:α){j:Nat}(h:j≠k):upd f k x j=f j:=by simp[upd,h]
structure Sit(w:World)(base:Nat)(e:TypeId)(m:Nat)(Z:Nat->Prop)(r:Nat->Rw)(f:Nat->List (BitVec 8))(k:Nat)(r':Nat->Rw)(F:Nat->List (BitVec 8)):Prop where
 own:∀j,j<m->(r j).own w base e (f j)
 sep:∀i j,i<m->j<m->i≠j->∀b,(r i).blk=some b->(r j).blk≠some b
 own':∀j,j<k->(r' j).own w base e (F j)
 sep':∀i j,i<m->j<k->i≠j->∀b,(r' j).blk=some b->(r i).blk≠some b
 sep2:∀i j,i<k->j<k->i≠j->∀b,(r' i).blk=some b->(r' j).blk≠some b
 z:∀b,Z b->b<w.heap.size/\(∀j,j<m->(r j).blk≠some b)/\(∀j,j<k->(r' j).blk≠some b)
structure Cur(w:World)(base:Nat)(e:TypeId)(m:Nat)(Z:Nat->Prop)(r:Nat->Rw)(f:Nat->List (BitVec 8))(k:Nat)(r':Nat->Rw)(x:Rw)(bs:List (BitVec 8)):Prop where
 own:x.own w base e bs
 sep:∀j,j<m->j≠k->∀b,x.blk=some b->(r j).blk≠some b
 sep':∀j,j<k->∀b,x.blk=some b->(r' j).blk≠some b
 z:∀b,Z b->x.blk≠some b
 same:∀b,x.blk=some b->(r k).blk=some b->x.A=(r k).A/\x.c=(r k).c/\(r k).n<=x.n/\bs.take (r k).n=f k
section
variable{w w':World}{base:Nat}{e:TypeId}{m:Nat}{Z:Nat->Prop}{r r':Nat->Rw}{f F:Nat->List (BitVec 8)}{k:Nat}{x:Rw}{bs:List (BitVec 8)}
theorem Sit.kept(S:Sit w base e m Z r f k r' F){row:Option Nat}(hg:w.grownBy w' row)(h1:∀j,j<m->∀b,(r j).blk=some b->row≠some b)(h2:∀j,j<k->∀b,(r' j).blk=some b->row≠some b):Sit w' base e m Z r f k r' F :=
 ⟨fun j hj=>(S.own j hj).kept hg (h1 j hj),S.sep,fun j hj=>(S.own' j hj).kept hg (h2 j hj),S.sep',S.sep2,fun b hb=>⟨Nat.lt_of_lt_of_le (S.z b hb).1 hg.size,(S.z b hb).2⟩⟩
theorem Sit.alloc(S:Sit w base e m Z r f k r' F)(o:Obj):Sit (w.alloc o) base e m Z r f k r' F :=
 S.kept (World.grownBy_alloc w o none) (fun _ _ _ _ h=>by cases h) (fun _ _ _ _ h=>by cases h)
theorem Sit.grown(S:Sit w base e m Z r f k r' F)(hg:w.grownBy w' none):Sit w' base e m Z r f k r' F :=
 S.kept hg (fun _ _ _ _ h=>by cases h) (fun _ _ _ _ h=>by cases h)
theorem grownBy_setCell(w:World)(g i:Nat)(v:Value):w.grownBy (w.setCell ⟨g,i,none⟩ v) (some g) :=
 ⟨rfl,rfl,rfl,by simp,fun k' _ hk=>heap_setCell_other w ⟨g,i,none⟩ k' v (fun e=>hk (by simp[e]))⟩
theorem Grew.block{w w':World}{base:Nat}{e:TypeId}{x x':Rw}{m:Nat}{bs news:List (BitVec 8)}(h:Grew w w' base e x x' m bs news){b:Nat}(hb:b<w.heap.size)(hx:x.blk≠some b):w'.heap[b]?=w.heap[b]?:=by
 rcases h.2.2 with⟨_,_,g,hg,h⟩|⟨_,_,_,h⟩
 ·refine h.block b hb fun e=>hx ?_
  cases e
  simp[Rw.blk,Rw.v,hg,Value.ownBlock]
 ·exact h.block b hb (by simp)
theorem Sit.congr(S:Sit w base e m Z r f k r' F){f':Nat->List (BitVec 8)}(h:∀j,j<m->f j=f' j):Sit w base e m Z r f' k r' F:=⟨fun j hj=>by rw[<-h j hj];exact S.own j hj,S.sep,S.own',S.sep',S.sep2,S.z⟩
theorem Sit.drewN(S:Sit w base e m Z r f k r' F)(q:Nat):Sit (w.drewN q) base e m Z r f k r' F:=⟨S.own,S.sep,S.own',S.sep',S.sep2,S.z⟩
theorem Sit.drew(S:Sit w base e m Z r f k r' F):Sit w.drew base e m Z r f k r' F:=⟨S.own,S.sep,S.own',S.sep',S.sep2,S.z⟩
theorem Sit.lt(S:Sit w base e m Z r f k r' F){j:Nat}(hj:j<m){b:Nat}(hb:(r j).blk=some b):b<w.heap.size:=((S.own j hj).lt b hb).2
theorem Sit.store(S:Sit w base e m Z r f 0 r' F){j i:Nat}(hj:j<m)(hi:i<(r j).n)(y:BitVec 8):
  ∃g,(r j).A=some ⟨g,0,none⟩/\base<=g/\w.cell? ⟨g,i,none⟩=some (B8 ((f j).getD i 0))/\w.frozen? ⟨g,i,none⟩=false/\(∀b,Z b->b≠g)/\Sit (w.setCell ⟨g,i,none⟩ (B8 y)) base e m Z r (upd f j ((f j).set i y)) 0 r' F:=by
 have ho:=S.own j hj;rcases ho.addr with⟨_,h0,_⟩|⟨g,hA,hb,hbase,hlt⟩
 ·omega
 have ho2:w.ownsRow base e 1 (.slice (some ⟨g,0,none⟩) (r j).n (r j).c) (r j).n (bv (f j)):=by
  have:=ho;unfold Rw.own Rw.v at this;rw[hA]at this;exact this
 have hl:=ho.len;refine⟨g,hA,hbase,?_,ho2.frozenAt i,fun b hz e=>(S.z b hz).2.1 j hj (by rw[e];exact hb),?_⟩
 ·rw[ho2.cellAt i (by omega)]
  simp[bv,show i<(f j).length by omega]
 ·have hs:=(ho2.stored i (B8 y)).1
  refine⟨fun j' hj'=>?_,S.sep,fun j' hj'=>absurd hj' (Nat.not_lt_zero _),S.sep',S.sep2,fun b hz=>?_⟩
  ·by_cases e:j'=j
   ·subst e
    rw[upd_same];unfold Rw.own Rw.v;rw[hA];have e2:bv ((f j').set i y)=(bv (f j')).set i (B8 y):=by simp[bv]
    rw[e2];exact hs
   ·rw[upd_other _ _ _ e]
    exact(S.own j' hj').kept (grownBy_setCell w g i (B8 y)) (fun b hb' h=>S.sep j j' hj hj' (Ne.symm e) g hb (by cases h;exact hb'))
  ·have:=S.z b hz
   exact⟨by simpa using this.1,this.2⟩
theorem Cur.start(S:Sit w base e m Z r f k r' F)(hk:k<m):Cur w base e m Z r f k r' (r k) (f k) :=
 ⟨S.own k hk,fun j hj hjk b hb=>S.sep k j hk hj (Ne.symm hjk) b hb,fun j hj b hb h=>S.sep' k j hk hj (by omega) b h hb,fun b hz=>(S.z b hz).2.1 k hk,
  fun b _ _=>⟨rfl,rfl,Nat.le_refl _,by rw[List.take_of_length_le (by rw[(S.own k hk).len];exact Nat.le_refl _)]⟩⟩
theorem Cur.alloc(C:Cur w base e m Z r f k r' x bs)(o:Obj):Cur (w.alloc o) base e m Z r f k r' x bs :=
 ⟨C.own.kept (World.grownBy_alloc w o none) (fun _ _ h=>by cases h),C.sep,C.sep',C.z,C.same⟩
theorem Cur.grown(C:Cur w base e m Z r f k r' x bs)(hg:w.grownBy w' none):Cur w' base e m Z r f k r' x bs :=
 ⟨C.own.kept hg (fun _ _ h=>by cases h),C.sep,C.sep',C.z,C.same⟩
theorem Cur.drew(C:Cur w base e m Z r f k r' x bs):Cur w.drew base e m Z r f k r' x bs:=⟨C.own,C.sep,C.sep',C.z,C.same⟩
theorem Sit.push(S:Sit w base e m Z r f k r' F)(C:Cur w base e m Z r f k r' x bs):Sit w base e m Z r f (k+1) (upd r' k x) (upd F k bs) where
 own:=S.own
 sep:=S.sep
 own':=fun j hj=>by
  by_cases h:j=k
  ·subst h;rw[upd_same,upd_same];exact C.own
  ·rw[upd_other _ _ _ h,upd_other _ _ _ h];exact S.own' j (by omega)
 sep':=fun i j hi hj hij b hb=>by
  by_cases h:j=k
  ·subst h;rw[upd_same]at hb;exact C.sep i hi hij b hb
  ·rw[upd_other _ _ _ h]at hb;exact S.sep' i j hi (by omega) hij b hb
 sep2:=fun i j hi hj hij b hb=>by
  by_cases h:j=k
  ·subst h
   rw[upd_other _ _ _ hij]at hb;rw[upd_same];exact fun h'=>C.sep' i (by omega) b h' hb
  ·rw[upd_other _ _ _ h]
   by_cases h':i=k
   ·subst h';rw[upd_same]at hb;exact C.sep' j (by omega) b hb
   ·rw[upd_other _ _ _ h']at hb;exact S.sep2 i j (by omega) (by omega) hij b hb
 z:=fun b hz=>⟨(S.z b hz).1,(S.z b hz).2.1,fun j hj=>by
  by_cases h:j=k
  ·subst h;rw[upd_same];exact C.z b hz
  ·rw[upd_other _ _ _ h];exact(S.z b hz).2.2 j (by omega)⟩
theorem Sit.zero(S:Sit w base e m Z r f k r' F):Sit w base e m Z r f 0 r' F :=
 ⟨S.own,S.sep,fun _ h=>absurd h (Nat.not_lt_zero _),fun _ _ _ h=>absurd h (Nat.not_lt_zero _),fun _ _ h=>absurd h (Nat.not_lt_zero _),fun b hz=>⟨(S.z b hz).1,(S.z b hz).2.1,fun _ h=>absurd h (Nat.not_lt_zero _)⟩⟩
theorem Sit.at(S:Sit w base e m Z r f k r' F){j i:Nat}(hj:j<m)(hi:i<(r j).n):∃g,(r j).A=some ⟨g,0,none⟩/\w.cell? ⟨g,i,none⟩=some (B8 ((f j).getD i 0)):=by
 have ho:=S.own j hj;rcases ho.addr with⟨_,h0,_⟩|⟨g,hA,hb,hbase,hlt⟩
 ·omega
 have ho2:w.ownsRow base e 1 (.slice (some ⟨g,0,none⟩) (r j).n (r j).c) (r j).n (bv (f j)):=by
  have:=ho;unfold Rw.own Rw.v at this;rw[hA]at this;exact this
 have hl:=ho.len;exact⟨g,hA,by rw[ho2.cellAt i (by omega)];simp[bv,show i<(f j).length by omega]⟩
theorem Sit.at'(S:Sit w base e m Z r f k r' F){j i:Nat}(hj:j<k)(hi:i<(r' j).n):∃g,(r' j).A=some ⟨g,0,none⟩/\w.cell? ⟨g,i,none⟩=some (B8 ((F j).getD i 0)):=by
 have ho:=S.own' j hj;rcases ho.addr with⟨_,h0,_⟩|⟨g,hA,hb,hbase,hlt⟩
 ·omega
 have ho2:w.ownsRow base e 1 (.slice (some ⟨g,0,none⟩) (r' j).n (r' j).c) (r' j).n (bv (F j)):=by
  have:=ho;unfold Rw.own Rw.v at this;rw[hA]at this;exact this
 have hl:=ho.len;exact⟨g,hA,by rw[ho2.cellAt i (by omega)];simp[bv,show i<(F j).length by omega]⟩
end
theorem row_room{w:World}{base:Nat}{e:TypeId}{A:Option Addr}{n c:Nat}{xs:List Value}(h:w.ownsRow base e 1 (.slice A n c) n xs):n<=c/\c<=9223372036854775807/\(A=none->n=0/\c=0)/\∀a,A=some a->∃g,a=⟨g,0,none⟩/\base<=g/\g<w.heap.size:=by
 rcases h.2 with⟨h1,h2⟩|⟨g',cap',cur,h',hb,hg,hnc,hcm,_⟩
 ·simp only[Value.slice.injEq]at h1
  obtain⟨rfl,rfl,rfl⟩:=h1;exact⟨by omega,by omega,fun _=>⟨rfl,rfl⟩,(fun a h=>by cases h)⟩
 ·simp only[Value.slice.injEq,true_and]at h'
  obtain⟨rfl,rfl⟩:=h';exact⟨hnc,by unfold maxLen at hcm;omega,(fun h=>by cases h),fun a h=>by cases h;exact⟨_,rfl,hb,(Array.getElem?_eq_some_iff.1 hg).1⟩⟩
theorem Rd.pre{w:World}{A:Option Addr}{bs ms:List (BitVec 8)}(h:Rd w A (bs++ms)):Rd w A bs:=fun k hk=>by
 obtain⟨b,o,e,hc⟩:=h k (by rw[List.length_append];omega);exact⟨b,o,e,by rw[hc,List.getElem_append_left hk]⟩
def three(x y z:Rw):Nat->Rw
 | 0=>x
 | 1=>y
 | _=>z
theorem row_slice{w:World}{base size n:Nat}{e:TypeId}{v:Value}{xs:List Value}(h:w.ownsRow base e size v n xs):∃A c,v=.slice A n c:=by
 rcases h.2 with⟨h0,rfl⟩|⟨g,cap,_,hv,_⟩
 ·exact⟨_,_,h0⟩
 ·exact⟨_,_,hv⟩
theorem cell_old{w:World}{a:Addr}{v:Value}(o:Obj)(h:w.cell? a=some v):(w.alloc o).cell? a=some v :=
 (((Below.refl w.heap.size w).alloc (Nat.le_refl _) o).cell (block_lt_of_cell h)).trans h
end Go.Proofs.YtfeipbgnjainlaaGreatDoor.K
namespace Go.Proofs.YtfeipbgnjainlaaGreatDoor.M
abbrev W:=BitVec 32
abbrev B:=BitVec 8
def rot(x:W)(n:Nat):W:=(x >>> n) ||| (x <<< (32-n))
def word(a b c d:B):W:=(a.setWidth 32 <<< 24) ||| (b.setWidth 32 <<< 16) ||| (c.setWidth 32 <<< 8) ||| d.setWidth 32
def sg0(x:W):W:=rot x 7 ^^^ rot x 18 ^^^ (x >>> 3)
def sg1(y:W):W:=rot y 17 ^^^ rot y 19 ^^^ (y >>> 10)
def bs0(a:W):W:=rot a 2 ^^^ rot a 13 ^^^ rot a 22
def bs1(e:W):W:=rot e 6 ^^^ rot e 11 ^^^ rot e 25
def ch(e f g:W):W:=(e &&& f) ^^^ (~~~e &&& g)
def maj(a b c:W):W:=(a &&& b) ^^^ (a &&& c) ^^^ (b &&& c)
def at32(l:List W)(i:Nat):W:=l.getD i 0
def at8(l:List B)(i:Nat):B:=l.getD i 0
def next(l:List W)(t:Nat):W:=at32 l (t-16)+sg0 (at32 l (t-15))+at32 l (t-7)+sg1 (at32 l (t-2))
def wordAt(b:List B)(t:Nat):W:=word (at8 b (4*t)) (at8 b (4*t+1)) (at8 b (4*t+2)) (at8 b (4*t+3))
def sched(b:List B):Nat->List W
 | 0=>[]
 | t+1=>sched b t ++ [if t<16 then wordAt b t else next (sched b t) t]
structure St where
 a:W
 b:W
 c:W
 d:W
 e:W
 f:W
 g:W
 h:W
deriving DecidableEq
def one(s:St)(k w:W):W:=s.h+bs1 s.e+ch s.e s.f s.g+k+w
def two(s:St):W:=bs0 s.a+maj s.a s.b s.c
def rnd(s:St)(k w:W):St:=⟨one s k w+two s,s.a,s.b,s.c,s.d+one s k w,s.e,s.f,s.g⟩
def St.add(s o:St):St:=⟨s.a+o.a,s.b+o.b,s.c+o.c,s.d+o.d,s.e+o.e,s.f+o.f,s.g+o.g,s.h+o.h⟩
def St.list(s:St):List W:=[s.a,s.b,s.c,s.d,s.e,s.f,s.g,s.h]
def kList:List W:=[1116352408,1899447441,3049323471,3921009573,961987163,1508970993,2453635748,2870763221,3624381080,310598401,607225278,1426881987,1925078388,2162078206,2614888103,3248222580,3835390401,4022224774,264347078,604807628,770255983,1249150122,1555081692,1996064986,2554220882,2821834349,2952996808,3210313671,3336571891,3584528711,113926993,338241895,666307205,773529912,1294757372,1396182291,1695183700,1986661051,2177026350,2456956037,2730485921,2820302411,3259730800,3345764771,3516065817,3600352804,4094571909,275423344,430227734,506948616,659060556,883997877,958139571,1322822218,1537002063,1747873779,1955562222,2024104815,2227730452,2361852424,2428436474,2756734187,3204031479,3329325298]
def first:St:=⟨1779033703,3144134277,1013904242,2773480762,1359893119,2600822924,528734635,1541459225⟩
def rounds(s:St)(ws:List W):Nat->St
 | 0=>s
 | t+1=>rnd (rounds s ws t) (at32 kList t) (at32 ws t)
def take(s:St)(blk:List B):St:=(rounds s (sched blk 64) 64).add s
def after(m:List B):Nat->St
 | 0=>first
 | k+1=>take (after m k) ((m.drop (64*k)).take 64)
end Go.Proofs.YtfeipbgnjainlaaGreatDoor.M
namespace Go.Proofs.YtfeipbgnjainlaaGreatDoor.K
open Go Go.RowKit
def markB(k i:Int):BitVec 8:=BitVec.ofInt 8 (IntKind.u64.wrap (IntKind.u64.wrap (wrap64 (wrap64 (1000003*wrap64 (k+7))+i))*11400714819323198485)/72057594037927936)
theorem markB_eq(k i:Int):Value.int .u8 (IntKind.u64.wrap (IntKind.u64.wrap (wrap64 (wrap64 (1000003*wrap64 (k+7))+i))*11400714819323198485)/72057594037927936 % 256)=B8 (markB k i):=by
 simp only[B8,markB,BitVec.toNat_ofInt,Value.int.injEq,true_and];omega
theorem markByte_any(k i:Int)(w:World):
  Calls Tryz.prog 18 #[.int .i64 k,.int .i64 i] w fun e w'=>e=.returned (B8 (markB k i))/\w=w':=by
 go_enter Tryz.func18,Tryz.ntmps18;go_wp2;go_ret;exact⟨by rw[<-markB_eq];rfl,rfl⟩
def pick(x n:Int):Int:=x % n
theorem pick_lo(x n:Int)(h:1<=n):0<=pick x n:=Int.emod_nonneg _ (by omega)
theorem pick_hi(x n:Int)(h:1<=n):pick x n<n:=Int.emod_lt_of_pos _ (by omega)
theorem Pick_any(x n:Int)(w:World)(hn:1<=n)(hn2:n<=4611686018427387904):
  Calls Tryz.prog 8 #[.int .i64 x,.int .i64 n] w fun e w'=>e=.returned (.int .i64 (pick x n))/\w=w':=by
 have h1 : -n<x.tmod n:=by have:=Int.lt_tmod_of_pos x (show(0:Int)<n by omega);omega
 have h2:x.tmod n<n:=Int.tmod_lt_of_pos x (by omega);go_enter Tryz.func8,Tryz.ntmps8;go_wp2
 ·go_ret
  rename_i h;refine⟨?_,rfl⟩
  have e:x.tmod n+n=pick x n:=by
   unfold pick;have:=Int.emod_nonneg x (show n≠0 by omega);have h5:=Int.tmod_eq_emod (a:=x) (b:=n);split at h5<;>omega
  show Ending.returned (Value.int .i64 (x.tmod n+n))=_
  rw[e]
 ·go_ret
  rename_i h;refine⟨?_,rfl⟩
  have e:x.tmod n=pick x n:=by
   unfold pick;have h5:=Int.tmod_eq_emod (a:=x) (b:=n);have h6:=Int.emod_lt_of_pos x (show(0:Int)<n by omega);split at h5<;>omega
  show Ending.returned (Value.int .i64 (x.tmod n))=_
  rw[e]
theorem wrap_u32'(n:Int):IntKind.u32.wrap n=n % 4294967296:=by simp[IntKind.wrap,IntKind.bits,IntKind.signed]
theorem W32_neg(x:BitVec 32):Op.unary .neg (W32 x)=pure (W32 (-x)):=by
 have h:IntKind.u32.wrap (0-(x.toNat:Int))=((-x).toNat:Int):=by
  rw[wrap_u32',BitVec.toNat_neg];have:=x.isLt;omega
 show Op.intArith .sub .u32 0 (x.toNat:Int)=_
 simp[Op.intArith];exact congrArg (fun z=>(pure (Value.int .u32 z):Sem Value)) (by simpa using h)
attribute [go_sem] W32_neg
section
variable{P:Program}(w:World)(src dst:TypeId)
end
end Go.Proofs.YtfeipbgnjainlaaGreatDoor.K
namespace Go.Proofs.YtfeipbgnjainlaaGreatDoor.M
abbrev U64:=BitVec 64
def w64(l:List B):U64:=l.foldl (fun a x=>256*a+x.setWidth 64) 0
def val(l:List B):Int:=(w64 l).toInt
abbrev Rdr:=Option (List B)
structure Eats(st:Rdr->Rdr)(enc:List B):Prop where
 full:∀t,st (some (enc++t))=some t
 cut:∀k,k<enc.length->st (some (enc.take k))=none
 bad:st none=none
theorem Eats.id:Eats (fun s=>s) []:=⟨fun _=>rfl,fun k hk=>absurd hk (Nat.not_lt_zero _),rfl⟩
def inI64(n:Int):Prop:=-9223372036854775808<=n/\n<=9223372036854775807
end Go.Proofs.YtfeipbgnjainlaaGreatDoor.M
