/- What the operations ask of each type of this translation (written by wip/E/tis.py); Contracts: words of eight bytes; Contracts: readers of the wire; Contracts: messages; what the wire says; Contracts: a message read, in the specification; Contracts: a message read, in the program; Contracts: messages that are the same; what is marked and held; Contracts: messages that are the same, marked, held; t -/
import Derived.Test.YtpjpkmhaffmbmaaGreatK1c
import Derived.Test.YtpjpkmhaffmbmaaGreatProg
import Derived.KernelRfl
section
namespace Go.Proofs.YtpjpkmhaffmbmaaGreat.E
open Go Go.RowKit Go.Proofs
set_option maxRecDepth 100000
theorem TT:(ti Tryz.prog 2=some ⟨1,8,false,some [.sc (.int .i64 0)],[],0,0,(.int .i64)⟩)∧(ti Tryz.prog 3=some ⟨1,8,false,some [.sc (.int .i64 0)],[],0,0,(.int .i64)⟩)∧(ti Tryz.prog 4=some ⟨1,1,false,some [.sc (.bool false)],[],0,0,.bool⟩)∧(ti Tryz.prog 5=some ⟨1,1,false,some [.sc (.int .u8 0)],[],0,0,(.int .u8)⟩)∧(ti Tryz.prog 7=some ⟨4,24,true,some [.sc (.int .i64 0),.sc (.int .i64 0),.sc (.bool false),.sc (.int .u8 0)],[(0,1),(1,1),(2,1),(3,1)],0,0,.struct⟩)∧(ti Tryz.prog 9=some ⟨1,16,false,some [.sc (.string ⟨#[]⟩)],[],0,0,.string⟩)∧(ti Tryz.prog 12=some ⟨1,8,false,some [.sc (.int .u64 0)],[],0,0,(.int .u64)⟩)∧(ti Tryz.prog 13=some ⟨2,24,true,some [.sc (.string ⟨#[]⟩),.sc (.int .u64 0)],[(0,1),(1,1)],0,0,.struct⟩)∧(ti Tryz.prog 15=some ⟨1,8,false,some [.sc (.pointer none)],[],261,0,.pointer⟩)∧(ti Tryz.prog 16=some ⟨1,8,false,some [.sc (.pointer none)],[],264,0,.pointer⟩)∧(ti Tryz.prog 17=some ⟨1,8,false,some [.sc (.pointer none)],[],272,0,.pointer⟩)∧(ti Tryz.prog 18=some ⟨1,8,true,some [.sc (.pointer none)],[(0,1)],0,0,.struct⟩)∧(ti Tryz.prog 19=some ⟨1,8,true,some [.sc (.pointer none)],[(0,1)],0,0,.struct⟩)∧(ti Tryz.prog 21=some ⟨1,4,false,some [.sc (.int .i32 0)],[],0,0,(.int .i32)⟩)∧(ti Tryz.prog 22=some ⟨1,24,false,some [.nilS],[],5,0,.slice⟩)∧(ti Tryz.prog 23=some ⟨1,8,false,some [.sc (.int .u64 0)],[],0,0,(.int .u64)⟩)∧(ti Tryz.prog 24=some ⟨4,32,true,some [.sc (.int .u64 0),.sc (.int .u64 0),.sc (.int .u64 0),.sc (.int .u64 0)],[(0,1),(1,1),(2,1),(3,1)],0,0,.struct⟩)∧(ti Tryz.prog 25=some ⟨4,32,true,some [.sc (.int .u64 0),.sc (.int .u64 0),.sc (.int .u64 0),.sc (.int .u64 0)],[(0,1),(1,1),(2,1),(3,1)],0,0,.struct⟩)∧(ti Tryz.prog 26=some ⟨7,56,true,some [.sc (.int .u64 0),.sc (.int .u64 0),.sc (.int .u64 0),.sc (.int .u64 0),.sc (.int .u64 0),.sc (.int .u64 0),.sc (.int .u64 0)],[(0,1),(1,1),(2,1),(3,4)],0,0,.struct⟩)∧(ti Tryz.prog 27=some ⟨7,56,true,some [.sc (.int .u64 0),.sc (.int .u64 0),.sc (.int .u64 0),.sc (.int .u64 0),.sc (.int .u64 0),.sc (.int .u64 0),.sc (.int .u64 0)],[(0,1),(1,1),(2,1),(3,4)],0,0,.struct⟩)∧(ti Tryz.prog 28=some ⟨14,112,true,some [.sc (.int .u64 0),.sc (.int .u64 0),.sc (.int .u64 0),.sc (.int .u64 0),.sc (.int .u64 0),.sc (.int .u64 0),.sc (.int .u64 0),.sc (.int .u64 0),.sc (.int .u64 0),.sc (.int .u64 0),.sc (.int .u64 0),.sc (.int .u64 0),.sc (.int .u64 0),.sc (.int .u64 0)],[(0,7),(7,7)],0,0,.struct⟩)∧(ti Tryz.prog 29=some ⟨14,112,true,some [.sc (.int .u64 0),.sc (.int .u64 0),.sc (.int .u64 0),.sc (.int .u64 0),.sc (.int .u64 0),.sc (.int .u64 0),.sc (.int .u64 0),.sc (.int .u64 0),.sc (.int .u64 0),.sc (.int .u64 0),.sc (.int .u64 0),.sc (.int .u64 0),.sc (.int .u64 0),.sc (.int .u64 0)],[(0,7),(7,7)],0,0,.struct⟩)∧(ti Tryz.prog 30=some ⟨1,24,false,some [.nilS],[],73,0,.slice⟩)∧(ti Tryz.prog 31=some ⟨15,136,true,some [.sc (.int .u64 0),.sc (.int .u64 0),.sc (.int .u64 0),.sc (.int .u64 0),.sc (.int .u64 0),.sc (.int .u64 0),.sc (.int .u64 0),.sc (.int .u64 0),.sc (.int .u64 0),.sc (.int .u64 0),.sc (.int .u64 0),.sc (.int .u64 0),.sc (.int .u64 0),.sc (.int .u64 0),.nilS],[(0,14),(14,1)],0,0,.struct⟩)∧(ti Tryz.prog 32=some ⟨15,136,true,some [.sc (.int .u64 0),.sc (.int .u64 0),.sc (.int .u64 0),.sc (.int .u64 0),.sc (.int .u64 0),.sc (.int .u64 0),.sc (.int .u64 0),.sc (.int .u64 0),.sc (.int .u64 0),.sc (.int .u64 0),.sc (.int .u64 0),.sc (.int .u64 0),.sc (.int .u64 0),.sc (.int .u64 0),.nilS],[(0,14),(14,1)],0,0,.struct⟩)∧(ti Tryz.prog 33=some ⟨3,32,true,some [.sc (.int .i64 0),.sc (.int .i64 0),.sc (.string ⟨#[]⟩)],[(0,1),(1,1),(2,1)],0,0,.struct⟩)∧(ti Tryz.prog 34=some ⟨3,32,true,some [.sc (.int .i64 0),.sc (.int .i64 0),.sc (.string ⟨#[]⟩)],[(0,1),(1,1),(2,1)],0,0,.struct⟩)∧(ti Tryz.prog 37=some ⟨1,24,false,some [.nilS],[],131,0,.slice⟩)∧(ti Tryz.prog 38=some ⟨1,24,false,some [.nilS],[],53,0,.slice⟩)∧(ti Tryz.prog 39=some ⟨1,24,false,some [.nilS],[],34,0,.slice⟩)∧(ti Tryz.prog 40=some ⟨1,24,false,some [.nilS],[],116,0,.slice⟩)∧(ti Tryz.prog 41=some ⟨19,232,true,some [.sc (.int .u64 0),.sc (.int .u64 0),.sc (.int .u64 0),.sc (.int .u64 0),.sc (.int .u64 0),.sc (.int .u64 0),.sc (.int .u64 0),.sc (.int .u64 0),.sc (.int .u64 0),.sc (.int .u64 0),.sc (.int .u64 0),.sc (.int .u64 0),.sc (.int .u64 0),.sc (.int .u64 0),.nilS,.nilS,.nilS,.nilS,.nilS],[(0,15),(15,1),(16,1),(17,1),(18,1)],0,0,.struct⟩)∧(ti Tryz.prog 42=some ⟨19,232,true,some [.sc (.int .u64 0),.sc (.int .u64 0),.sc (.int .u64 0),.sc (.int .u64 0),.sc (.int .u64 0),.sc (.int .u64 0),.sc (.int .u64 0),.sc (.int .u64 0),.sc (.int .u64 0),.sc (.int .u64 0),.sc (.int .u64 0),.sc (.int .u64 0),.sc (.int .u64 0),.sc (.int .u64 0),.nilS,.nilS,.nilS,.nilS,.nilS],[(0,15),(15,1),(16,1),(17,1),(18,1)],0,0,.struct⟩)∧(ti Tryz.prog 46=some ⟨5,40,true,some [.sc (.int .i64 0),.sc (.int .u64 0),.sc (.int .u64 0),.sc (.int .u64 0),.sc (.int .u64 0)],[(0,1),(1,4)],0,0,.struct⟩)∧(ti Tryz.prog 47=some ⟨5,40,true,some [.sc (.int .i64 0),.sc (.int .u64 0),.sc (.int .u64 0),.sc (.int .u64 0),.sc (.int .u64 0)],[(0,1),(1,4)],0,0,.struct⟩)∧(ti Tryz.prog 49=some ⟨1,24,false,some [.nilS],[],25,0,.slice⟩)∧(ti Tryz.prog 50=some ⟨6,64,true,some [.sc (.int .i64 0),.sc (.int .u64 0),.sc (.int .u64 0),.sc (.int .u64 0),.sc (.int .u64 0),.nilS],[(0,5),(5,1)],0,0,.struct⟩)∧(ti Tryz.prog 51=some ⟨6,64,true,some [.sc (.int .i64 0),.sc (.int .u64 0),.sc (.int .u64 0),.sc (.int .u64 0),.sc (.int .u64 0),.nilS],[(0,5),(5,1)],0,0,.struct⟩)∧(ti Tryz.prog 52=some ⟨11,104,true,some [.sc (.int .i64 0),.sc (.int .u64 0),.sc (.int .u64 0),.sc (.int .u64 0),.sc (.int .u64 0),.sc (.int .i64 0),.sc (.int .u64 0),.sc (.int .u64 0),.sc (.int .u64 0),.sc (.int .u64 0),.nilS],[(0,5),(5,6)],0,0,.struct⟩)∧(ti Tryz.prog 53=some ⟨11,104,true,some [.sc (.int .i64 0),.sc (.int .u64 0),.sc (.int .u64 0),.sc (.int .u64 0),.sc (.int .u64 0),.sc (.int .i64 0),.sc (.int .u64 0),.sc (.int .u64 0),.sc (.int .u64 0),.sc (.int .u64 0),.nilS],[(0,5),(5,6)],0,0,.struct⟩)∧(ti Tryz.prog 56=some ⟨1,24,false,some [.nilS],[],9,0,.slice⟩)∧(ti Tryz.prog 57=some ⟨11,120,true,some [.sc (.int .i64 0),.sc (.int .i64 0),.sc (.int .i64 0),.sc (.int .i64 0),.sc (.int .u64 0),.sc (.int .u64 0),.sc (.int .u64 0),.sc (.int .u64 0),.sc (.int .i64 0),.nilS,.nilS],[(0,1),(1,1),(2,1),(3,1),(4,4),(8,1),(9,1),(10,1)],0,0,.struct⟩)∧(ti Tryz.prog 58=some ⟨11,120,true,some [.sc (.int .i64 0),.sc (.int .i64 0),.sc (.int .i64 0),.sc (.int .i64 0),.sc (.int .u64 0),.sc (.int .u64 0),.sc (.int .u64 0),.sc (.int .u64 0),.sc (.int .i64 0),.nilS,.nilS],[(0,1),(1,1),(2,1),(3,1),(4,4),(8,1),(9,1),(10,1)],0,0,.struct⟩)∧(ti Tryz.prog 59=some ⟨2,16,true,some [.sc (.int .i64 0),.sc (.int .i64 0)],[(0,1),(1,1)],0,0,.struct⟩)∧(ti Tryz.prog 60=some ⟨2,16,true,some [.sc (.int .i64 0),.sc (.int .i64 0)],[(0,1),(1,1)],0,0,.struct⟩)∧(ti Tryz.prog 72=some ⟨7,56,true,some [.sc (.int .i64 0),.sc (.int .i64 0),.sc (.int .i64 0),.sc (.int .u64 0),.sc (.int .u64 0),.sc (.int .u64 0),.sc (.int .u64 0)],[(0,1),(1,1),(2,5)],0,0,.struct⟩)∧(ti Tryz.prog 73=some ⟨7,56,true,some [.sc (.int .i64 0),.sc (.int .i64 0),.sc (.int .i64 0),.sc (.int .u64 0),.sc (.int .u64 0),.sc (.int .u64 0),.sc (.int .u64 0)],[(0,1),(1,1),(2,5)],0,0,.struct⟩)∧(ti Tryz.prog 76=some ⟨1,24,false,some [.nilS],[],158,0,.slice⟩)∧(ti Tryz.prog 77=some ⟨4,32,true,some [.sc (.int .u64 0),.sc (.int .u64 0),.sc (.int .u64 0),.sc (.int .u64 0)],[(0,1),(1,1),(2,1),(3,1)],0,0,.struct⟩)∧(ti Tryz.prog 78=some ⟨5,40,true,some [.sc (.int .i64 0),.sc (.int .u64 0),.sc (.int .u64 0),.sc (.int .u64 0),.sc (.int .u64 0)],[(0,1),(1,4)],0,0,.struct⟩)∧(ti Tryz.prog 79=some ⟨5,40,true,some [.sc (.int .i64 0),.sc (.int .u64 0),.sc (.int .u64 0),.sc (.int .u64 0),.sc (.int .u64 0)],[(0,1),(1,4)],0,0,.struct⟩)∧(ti Tryz.prog 80=some ⟨1,24,false,some [.nilS],[],77,0,.slice⟩)∧(ti Tryz.prog 83=some ⟨2,32,true,some [.sc (.string ⟨#[]⟩),.sc (.string ⟨#[]⟩)],[(0,1),(1,1)],0,0,.struct⟩)∧(ti Tryz.prog 84=some ⟨2,32,true,some [.sc (.string ⟨#[]⟩),.sc (.string ⟨#[]⟩)],[(0,1),(1,1)],0,0,.struct⟩)∧(ti Tryz.prog 87=some ⟨1,24,false,some [.nilS],[],166,0,.slice⟩)∧(ti Tryz.prog 95=some ⟨1,8,false,some [.sc (.pointer none)],[],99,0,.pointer⟩)∧(ti Tryz.prog 97=some ⟨1,8,false,some [.sc (.pointer none)],[],108,0,.pointer⟩)∧(ti Tryz.prog 98=some ⟨1,8,true,some [.sc (.pointer none)],[(0,1)],0,0,.struct⟩)∧(ti Tryz.prog 99=some ⟨1,8,true,some [.sc (.pointer none)],[(0,1)],0,0,.struct⟩)∧(ti Tryz.prog 103=some ⟨1,8,false,some [.sc (.pointer none)],[],179,0,.pointer⟩)∧(ti Tryz.prog 104=some ⟨1,8,true,some [.sc (.pointer none)],[(0,1)],0,0,.struct⟩)∧(ti Tryz.prog 105=some ⟨1,8,true,some [.sc (.pointer none)],[(0,1)],0,0,.struct⟩)∧(ti Tryz.prog 106=some ⟨1,8,false,some [.sc (.pointer none)],[],105,0,.pointer⟩)∧(ti Tryz.prog 107=some ⟨1,8,true,some [.sc (.pointer none)],[(0,1)],0,0,.struct⟩)∧(ti Tryz.prog 108=some ⟨1,8,true,some [.sc (.pointer none)],[(0,1)],0,0,.struct⟩)∧(ti Tryz.prog 115=some ⟨13,104,true,some [.sc (.int .i64 0),.sc (.int .i64 0),.sc (.int .i64 0),.sc (.int .u64 0),.sc (.int .u64 0),.sc (.int .u64 0),.sc (.int .u64 0),.sc (.int .i64 0),.sc (.int .u64 0),.sc (.int .u64 0),.sc (.int .u64 0),.sc (.int .u64 0),.sc (.int .i64 0)],[(0,1),(1,1),(2,5),(7,5),(12,1)],0,0,.struct⟩)∧(ti Tryz.prog 116=some ⟨13,104,true,some [.sc (.int .i64 0),.sc (.int .i64 0),.sc (.int .i64 0),.sc (.int .u64 0),.sc (.int .u64 0),.sc (.int .u64 0),.sc (.int .u64 0),.sc (.int .i64 0),.sc (.int .u64 0),.sc (.int .u64 0),.sc (.int .u64 0),.sc (.int .u64 0),.sc (.int .i64 0)],[(0,1),(1,1),(2,5),(7,5),(12,1)],0,0,.struct⟩)∧(ti Tryz.prog 121=some ⟨6,48,true,some [.sc (.int .i64 0),.sc (.int .i64 0),.sc (.int .u64 0),.sc (.int .u64 0),.sc (.int .u64 0),.sc (.int .u64 0)],[(0,1),(1,1),(2,4)],0,0,.struct⟩)∧(ti Tryz.prog 122=some ⟨6,48,true,some [.sc (.int .i64 0),.sc (.int .i64 0),.sc (.int .u64 0),.sc (.int .u64 0),.sc (.int .u64 0),.sc (.int .u64 0)],[(0,1),(1,1),(2,4)],0,0,.struct⟩)∧(ti Tryz.prog 130=some ⟨3,24,true,some [.sc (.int .i64 0),.sc (.int .i64 0),.sc (.int .u64 0)],[(0,1),(1,1),(2,1)],0,0,.struct⟩)∧(ti Tryz.prog 131=some ⟨3,24,true,some [.sc (.int .i64 0),.sc (.int .i64 0),.sc (.int .u64 0)],[(0,1),(1,1),(2,1)],0,0,.struct⟩)∧(ti Tryz.prog 133=some ⟨1,8,false,some [.sc (.pointer none)],[],135,0,.pointer⟩)∧(ti Tryz.prog 134=some ⟨4,40,true,some [.sc (.string ⟨#[]⟩),.sc (.int .i64 0),.sc (.int .i64 0),.sc (.int .i64 0)],[(0,1),(1,1),(2,2)],0,0,.struct⟩)∧(ti Tryz.prog 135=some ⟨4,40,true,some [.sc (.string ⟨#[]⟩),.sc (.int .i64 0),.sc (.int .i64 0),.sc (.int .i64 0)],[(0,1),(1,1),(2,2)],0,0,.struct⟩)∧(ti Tryz.prog 141=some ⟨1,24,false,some [.nilS],[],27,0,.slice⟩)∧(ti Tryz.prog 143=some ⟨1,24,false,some [.nilS],[],145,0,.slice⟩)∧(ti Tryz.prog 145=some ⟨1,8,false,some [.sc (.pointer none)],[],23,0,.pointer⟩)∧(ti Tryz.prog 157=some ⟨16,144,true,some [.sc (.int .i64 0),.sc (.int .i64 0),.sc (.int .i64 0),.sc (.int .i64 0),.sc (.int .i64 0),.sc (.int .i64 0),.sc (.int .u64 0),.sc (.int .u64 0),.sc (.int .u64 0),.sc (.int .u64 0),.sc (.int .i64 0),.sc (.int .u64 0),.sc (.int .u64 0),.sc (.int .u64 0),.sc (.int .u64 0),.nilS],[(0,1),(1,1),(2,1),(3,1),(4,1),(5,5),(10,5),(15,1)],0,0,.struct⟩)∧(ti Tryz.prog 158=some ⟨16,144,true,some [.sc (.int .i64 0),.sc (.int .i64 0),.sc (.int .i64 0),.sc (.int .i64 0),.sc (.int .i64 0),.sc (.int .i64 0),.sc (.int .u64 0),.sc (.int .u64 0),.sc (.int .u64 0),.sc (.int .u64 0),.sc (.int .i64 0),.sc (.int .u64 0),.sc (.int .u64 0),.sc (.int .u64 0),.sc (.int .u64 0),.nilS],[(0,1),(1,1),(2,1),(3,1),(4,1),(5,5),(10,5),(15,1)],0,0,.struct⟩)∧(ti Tryz.prog 159=some ⟨1,24,false,some [.nilS],[],51,0,.slice⟩)∧(ti Tryz.prog 160=some ⟨2,32,true,some [.sc (.int .i64 0),.nilS],[(0,1),(1,1)],0,0,.struct⟩)∧(ti Tryz.prog 161=some ⟨2,32,true,some [.sc (.int .i64 0),.nilS],[(0,1),(1,1)],0,0,.struct⟩)∧(ti Tryz.prog 165=some ⟨16,144,true,some [.sc (.int .i64 0),.sc (.int .i64 0),.sc (.int .i64 0),.sc (.int .i64 0),.sc (.int .i64 0),.sc (.int .i64 0),.sc (.int .u64 0),.sc (.int .u64 0),.sc (.int .u64 0),.sc (.int .u64 0),.sc (.int .i64 0),.sc (.int .u64 0),.sc (.int .u64 0),.sc (.int .u64 0),.sc (.int .u64 0),.nilS],[(0,1),(1,1),(2,1),(3,1),(4,1),(5,5),(10,5),(15,1)],0,0,.struct⟩)∧(ti Tryz.prog 166=some ⟨16,144,true,some [.sc (.int .i64 0),.sc (.int .i64 0),.sc (.int .i64 0),.sc (.int .i64 0),.sc (.int .i64 0),.sc (.int .i64 0),.sc (.int .u64 0),.sc (.int .u64 0),.sc (.int .u64 0),.sc (.int .u64 0),.sc (.int .i64 0),.sc (.int .u64 0),.sc (.int .u64 0),.sc (.int .u64 0),.sc (.int .u64 0),.nilS],[(0,1),(1,1),(2,1),(3,1),(4,1),(5,5),(10,5),(15,1)],0,0,.struct⟩)∧(ti Tryz.prog 178=some ⟨2,32,true,some [.nilS,.sc (.int .i64 0)],[(0,1),(1,1)],0,0,.struct⟩)∧(ti Tryz.prog 179=some ⟨2,32,true,some [.nilS,.sc (.int .i64 0)],[(0,1),(1,1)],0,0,.struct⟩)∧(ti Tryz.prog 180=some ⟨1,8,false,some [.sc (.pointer none)],[],182,0,.pointer⟩)∧(ti Tryz.prog 181=some ⟨4,40,true,some [.sc (.string ⟨#[]⟩),.sc (.int .i64 0),.sc (.int .i64 0),.sc (.int .i64 0)],[(0,1),(1,1),(2,2)],0,0,.struct⟩)∧(ti Tryz.prog 182=some ⟨4,40,true,some [.sc (.string ⟨#[]⟩),.sc (.int .i64 0),.sc (.int .i64 0),.sc (.int .i64 0)],[(0,1),(1,1),(2,2)],0,0,.struct⟩)∧(ti Tryz.prog 195=some ⟨0,0,true,some [],[],0,0,.struct⟩)∧(ti Tryz.prog 196=some ⟨0,0,true,some [],[],0,0,.struct⟩)∧(ti Tryz.prog 202=some ⟨1,8,false,some [.sc (.pointer none)],[],27,0,.pointer⟩)∧(ti Tryz.prog 222=some ⟨2,16,true,some [.sc (.int .i64 0),.sc (.int .i64 0)],[(0,1),(1,1)],0,0,.struct⟩)∧(ti Tryz.prog 223=some ⟨2,16,true,some [.sc (.int .i64 0),.sc (.int .i64 0)],[(0,1),(1,1)],0,0,.struct⟩)∧(ti Tryz.prog 224=some ⟨1,8,false,some [.sc (.int .u64 0)],[],0,0,(.int .u64)⟩)∧(ti Tryz.prog 237=some ⟨1,24,false,some [.nilS],[],223,0,.slice⟩)∧(ti Tryz.prog 249=some ⟨8,64,true,some [.sc (.int .u64 0),.sc (.int .u64 0),.sc (.int .u64 0),.sc (.int .u64 0),.sc (.int .u64 0),.sc (.int .u64 0),.sc (.int .u64 0),.sc (.int .u64 0)],[],25,2,.array⟩)∧(ti Tryz.prog 250=some ⟨1,24,false,some [.nilS],[],249,0,.slice⟩)∧(ti Tryz.prog 257=some ⟨1,4,false,some [.sc (.int .u32 0)],[],0,0,(.int .u32)⟩)∧(ti Tryz.prog 259=some ⟨1,24,false,some [.nilS],[],23,0,.slice⟩)∧(ti Tryz.prog 260=some ⟨4,40,true,some [.sc (.pointer none),.sc (.pointer none),.sc (.pointer none),.sc (.string ⟨#[]⟩)],[(0,1),(1,1),(2,1),(3,1)],0,0,.struct⟩)∧(ti Tryz.prog 262=some ⟨0,0,true,some [],[],16,0,.array⟩)∧(ti Tryz.prog 263=some ⟨0,0,true,some [],[(0,0)],0,0,.struct⟩)∧(ti Tryz.prog 268=some ⟨1,8,false,some [.sc (.pointer none)],[],5,0,.pointer⟩)∧(ti Tryz.prog 271=some ⟨11,48,true,some [.sc (.int .u64 0),.sc (.int .u64 0),.sc (.int .u32 0),.sc (.int .u8 0),.sc (.int .u8 0),.sc (.int .u8 0),.sc (.int .u8 0),.sc .nilFunc,.sc (.pointer none),.sc (.int .i32 0),.sc (.int .i32 0)],[(0,1),(1,1),(2,1),(3,1),(4,1),(5,1),(6,1),(7,1),(8,1),(9,1),(10,1)],0,0,.struct⟩)∧(za3 Tryz.prog 25=some [(.int .u64),(.int .u64),(.int .u64),(.int .u64)])∧(za3 Tryz.prog 27=some [(.int .u64),(.int .u64),(.int .u64),(.int .u64),(.int .u64),(.int .u64),(.int .u64)])∧(za3 Tryz.prog 29=some [(.int .u64),(.int .u64),(.int .u64),(.int .u64),(.int .u64),(.int .u64),(.int .u64),(.int .u64),(.int .u64),(.int .u64),(.int .u64),(.int .u64),(.int .u64),(.int .u64)])∧(za3 Tryz.prog 34=some [(.int .i64),(.int .i64),.string])∧(za3 Tryz.prog 47=some [(.int .i64),(.int .u64),(.int .u64),(.int .u64),(.int .u64)])∧(za3 Tryz.prog 60=some [(.int .i64),(.int .i64)])∧(za3 Tryz.prog 73=some [(.int .i64),(.int .i64),(.int .i64),(.int .u64),(.int .u64),(.int .u64),(.int .u64)])∧(za3 Tryz.prog 77=some [(.int .u64),(.int .u64),(.int .u64),(.int .u64)])∧(za3 Tryz.prog 79=some [(.int .i64),(.int .u64),(.int .u64),(.int .u64),(.int .u64)])∧(za3 Tryz.prog 84=some [.string,.string])∧(za3 Tryz.prog 116=some [(.int .i64),(.int .i64),(.int .i64),(.int .u64),(.int .u64),(.int .u64),(.int .u64),(.int .i64),(.int .u64),(.int .u64),(.int .u64),(.int .u64),(.int .i64)])∧(za3 Tryz.prog 122=some [(.int .i64),(.int .i64),(.int .u64),(.int .u64),(.int .u64),(.int .u64)])∧(za3 Tryz.prog 131=some [(.int .i64),(.int .i64),(.int .u64)])∧(za3 Tryz.prog 135=some [.string,(.int .i64),(.int .i64),(.int .i64)])∧(za3 Tryz.prog 182=some [.string,(.int .i64),(.int .i64),(.int .i64)])∧(za3 Tryz.prog 223=some [(.int .i64),(.int .i64)]):=
 ⟨by kernel_rfl,by kernel_rfl,by kernel_rfl,by kernel_rfl,by kernel_rfl,by kernel_rfl,by kernel_rfl,by kernel_rfl,by kernel_rfl,by kernel_rfl,by kernel_rfl,by kernel_rfl,by kernel_rfl,by kernel_rfl,by kernel_rfl,by kernel_rfl,by kernel_rfl,by kernel_rfl,by kernel_rfl,by kernel_rfl,by kernel_rfl,by kernel_rfl,by kernel_rfl,by kernel_rfl,by kernel_rfl,by kernel_rfl,by kernel_rfl,by kernel_rfl,by kernel_rfl,by kernel_rfl,by kernel_rfl,by kernel_rfl,by kernel_rfl,by kernel_rfl,by kernel_rfl,by kernel_rfl,by kernel_rfl,by kernel_rfl,by kernel_rfl,by kernel_rfl,by kernel_rfl,by kernel_rfl,by kernel_rfl,by kernel_rfl,by kernel_rfl,by kernel_rfl,by kernel_rfl,by kernel_rfl,by kernel_rfl,by kernel_rfl,by kernel_rfl,by kernel_rfl,by kernel_rfl,by kernel_rfl,by kernel_rfl,by kernel_rfl,by kernel_rfl,by kernel_rfl,by kernel_rfl,by kernel_rfl,by kernel_rfl,by kernel_rfl,by kernel_rfl,by kernel_rfl,by kernel_rfl,by kernel_rfl,by kernel_rfl,by kernel_rfl,by kernel_rfl,by kernel_rfl,by kernel_rfl,by kernel_rfl,by kernel_rfl,by kernel_rfl,by kernel_rfl,by kernel_rfl,by kernel_rfl,by kernel_rfl,by kernel_rfl,by kernel_rfl,by kernel_rfl,by kernel_rfl,by kernel_rfl,by kernel_rfl,by kernel_rfl,by kernel_rfl,by kernel_rfl,by kernel_rfl,by kernel_rfl,by kernel_rfl,by kernel_rfl,by kernel_rfl,by kernel_rfl,by kernel_rfl,by kernel_rfl,by kernel_rfl,by kernel_rfl,by kernel_rfl,by kernel_rfl,by kernel_rfl,by kernel_rfl,by kernel_rfl,by kernel_rfl,by kernel_rfl,by kernel_rfl,by kernel_rfl,by kernel_rfl,by kernel_rfl,by kernel_rfl,by kernel_rfl,by kernel_rfl,by kernel_rfl,by kernel_rfl,by kernel_rfl,by kernel_rfl,by kernel_rfl,by kernel_rfl,by kernel_rfl,by kernel_rfl,by kernel_rfl,by kernel_rfl⟩
end Go.Proofs.YtpjpkmhaffmbmaaGreat.E
end
section
namespace Go.Proofs.YtpjpkmhaffmbmaaGreat.E
open Go Go.RowKit
set_option maxHeartbeats 4000000
set_option maxRecDepth 10000
set_option linter.unusedSimpArgs false
set_option linter.unusedVariables false
set_option linter.unusedSectionVars false
def zq0:Dec:=⟨[],[9,10,11],[22,30,37,38,39,40,49,56,76,80,87,141,143,159,237,250,259],false⟩
attribute [go_sem] TT
theorem zf3:Tryz.prog.follows .mixedOrders=true:=by kernel_rfl
attribute [go_sem] zf3
abbrev vI (a:Int):AV:=.sc (.int .i64 a)
abbrev vB (b:Bool):AV:=.sc (.bool b)
abbrev vU (n:Nat):AV:=.sc (.int .u64 (n:Int))
abbrev vS (b:ByteArray):AV:=.sc (.string b)
theorem wrS {a:Int} (h:-9223372036854775808≤a∧a<9223372036854775808):IntKind.i64.wrap a=a:=by
 have h8:IntKind.i64.bits=64:=rfl
 have hs:IntKind.i64.signed=true:=rfl
 simp only [IntKind.wrap,h8,hs,Bool.true_and,decide_eq_true_eq]
 split<;>omega
def bN (s:ByteArray) (i:Nat):Nat:=(s.get! i).toNat
def jI (s:ByteArray) (a:Nat):Nat→Nat
 | 0=>0
 | k+1=>jI s a k * 256+bN s (a+k)
theorem zgj (s:ByteArray) (i:Nat):bN s i<256:=(s.get! i).toNat_lt
theorem zkV (s:ByteArray) (a k:Nat):jI s a k<256 ^ k:=by
 induction k with
 | zero=>simp [jI]
 | succ k ih=>
  have:=zgj s (a+k)
  simp only [jI,Nat.pow_succ]
  omega
theorem zdY (s:ByteArray) (a:Nat) {k:Nat} (h:k≤8):jI s a k<18446744073709551616:=Nat.lt_of_lt_of_le (zkV s a k) (by
 have:256 ^ k≤256 ^ 8:=Nat.pow_le_pow_right (by omega) h
 omega)
theorem yx (n:Nat) (h:n<18446744073709551616):IntKind.u64.wrap (n:Int)=(n:Int):=by
 have h8:IntKind.u64.bits=64:=rfl
 have hs:IntKind.u64.signed=false:=rfl
 simp only [IntKind.wrap,h8,hs,Bool.false_and,Bool.false_eq_true,if_false]
 omega
theorem qF {s:ByteArray} {i:Nat} (h:i<s.size):(s.data[i]?).map (fun b=>AV.sc (.int .u8 (b.toNat:Int)))=some (.sc (.int .u8 (bN s i:Int))):=by
 have h':i<s.data.size:=h
 rw [Array.getElem?_eq_getElem h']
 show some (AV.sc (Value.int IntKind.u8 ((s.data[i]'h').toNat:Int)))=some (AV.sc (Value.int IntKind.u8 ((s.data[i]!).toNat:Int)))
 rw [getElem!_pos s.data i h']
theorem znq {x y k:Nat} (hx:x * 2 ^ k+y<18446744073709551616) (hy:y<2 ^ k):(BitVec.ofInt 64 ((x * 2 ^ k:Nat):Int)||| BitVec.ofInt 64 ((y:Nat):Int)).toNat=x * 2 ^ k+y:=by
 rw [BitVec.ofInt_natCast,BitVec.ofInt_natCast,BitVec.toNat_or,BitVec.toNat_ofNat,BitVec.toNat_ofNat,Nat.mod_eq_of_lt (by omega),Nat.mod_eq_of_lt (by omega),Nat.mul_comm,Nat.two_pow_add_eq_or_of_lt hy]
theorem zmi {x y k:Nat} (hx:x * 2 ^ k+y<18446744073709551616) (hy:y<2 ^ k):orI .u64 ((x * 2 ^ k:Nat):Int) (y:Int)=((x * 2 ^ k+y:Nat):Int):=by
 unfold orI
 rw [show IntKind.u64.bits=64 from rfl,znq hx hy]
 exact yx _ hx
theorem wI (s:ByteArray) (a:Nat) (ha:a+8≤s.size) (hs:s.size≤9000000000000000000):CallR Tryz.prog 119 [vS s,vI a] (vU (jI s a 8)) []:=by
 refine zj zq0 false Tryz.f119 ?_
 conv=>enter [1];reduce
 refine jvR Tryz.f119 22 [.tmp 4] (by kernel_rfl) (by decide +kernel) rfl ?_
 simp -implicitDefEqProofs only [go_sem]
 refine zU (fun m z=>∃k,k≤8∧m=8 - k∧z=⟨22,[(0,vS s),(1,vI a),(5,vU (jI s a k)),(6,vI ((a+k:Nat):Int))],[],1⟩) 8 ?_ ?_
 ·simp -implicitDefEqProofs only [go_sem]
  exact ⟨0,by omega,rfl,rfl⟩
 ·rintro m z ⟨k,hk,rfl,rfl⟩
  have hw1:IntKind.i64.wrap ((a:Int)+8)=(a:Int)+8:=wrS (by omega)
  rcases Nat.lt_or_ge k 8 with hlt | hge
  ·have hlt':((a+k:Nat):Int)<(a:Int)+8:=by omega
   have hg:=qF (s:=s) (i:=a+k) (by omega)
   have hl8:=zdY s a (k:=k) (by omega)
   have hl9:=zdY s a (k:=k+1) (by omega)
   simp only [jI] at hl9
   have hbl:=zgj s (a+k)
   have hsh:IntKind.u64.wrap ((jI s a k:Int) * 2 ^ 8)=((jI s a k * 256:Nat):Int):=by
    rw [show ((jI s a k:Int) * 2 ^ 8)=((jI s a k * 256:Nat):Int) by omega]
    exact yx _ (Nat.lt_of_le_of_lt (Nat.le_add_right _ _) hl9)
   have hb:IntKind.u64.wrap (bN s (a+k):Int)=(bN s (a+k):Int):=yx _ (Nat.lt_of_lt_of_le hbl (by decide))
   have hor:=zmi (x:=jI s a k) (y:=bN s (a+k)) (k:=8) (by omega) (by omega)
   simp only [show 2 ^ 8=256 from rfl] at hor
   simp -implicitDefEqProofs only [go_sem,hw1,hlt',hg,hsh,hb,hor]
   exact ⟨_,by omega,k+1,by omega,rfl,by rw [wrS (by omega)];rfl⟩
  ·have hk:k=8:=by omega
   subst hk
   have hlt':¬((a+8:Nat):Int)<(a:Int)+8:=by omega
   simp -implicitDefEqProofs only [go_sem,hw1,hlt']
theorem zlm (k:IntKind) (x y:Int):orI k x y=orI k y x:=by unfold orI;rw [BitVec.or_comm]
theorem qB {x b k:Nat} (hx:x<2 ^ k) (hb:b<256) (hk:k≤56):orI .u64 (x:Int) (IntKind.u64.wrap (IntKind.u64.wrap (b:Int) * 2 ^ k))=((b * 2 ^ k+x:Nat):Int):=by
 have hp:2 ^ k≤2 ^ 56:=Nat.pow_le_pow_right (by omega) hk
 have h1:(b+1) * 2 ^ k≤256 * 2 ^ 56:=Nat.mul_le_mul (by omega) hp
 rw [Nat.add_mul,Nat.one_mul] at h1
 rw [yx b (by omega),show ((b:Int) * 2 ^ k)=((b * 2 ^ k:Nat):Int) by simp,yx _ (by omega),zlm]
 exact zmi (by omega) hx
def bL (l:List UInt8) (i:Nat):Nat:=(l.getD i 0).toNat
theorem zaR (l:List UInt8) (i:Nat):bL l i<256:=(l.getD i 0).toNat_lt
def xS (l:List UInt8):Nat→Nat
 | 0=>0
 | k+1=>xS l k * 256+bL l k
theorem xf {l:List UInt8} {i:Nat} (h:i<l.length):(l[i]?).map zt=some [.sc (.int .u8 (bL l i:Int))]:=by
 rw [List.getElem?_eq_getElem h]
 simp [zt,bL,h]
theorem zg7 (l:List UInt8) (h:8≤l.length):CallR Tryz.prog 162 [.agg [],.ro 1 (l.map zt)] (vU (xS l 8)) []:=by
 refine zj zq0 false Tryz.f162 ?_
 conv=>enter [1];reduce
 refine jvR Tryz.f162 54 [.tmp 4] (by kernel_rfl) (by decide +kernel) rfl ?_
 have h0:(0:Int)<(l.length:Int):=by omega
 have h1:(1:Int)<(l.length:Int):=by omega
 have h2:(2:Int)<(l.length:Int):=by omega
 have h3:(3:Int)<(l.length:Int):=by omega
 have h4:(4:Int)<(l.length:Int):=by omega
 have h5:(5:Int)<(l.length:Int):=by omega
 have h6:(6:Int)<(l.length:Int):=by omega
 have h7:(7:Int)<(l.length:Int):=by omega
 have g0:=xf (l:=l) (i:=0) (by omega)
 have g1:=xf (l:=l) (i:=1) (by omega)
 have g2:=xf (l:=l) (i:=2) (by omega)
 have g3:=xf (l:=l) (i:=3) (by omega)
 have g4:=xf (l:=l) (i:=4) (by omega)
 have g5:=xf (l:=l) (i:=5) (by omega)
 have g6:=xf (l:=l) (i:=6) (by omega)
 have g7:=xf (l:=l) (i:=7) (by omega)
 simp -implicitDefEqProofs only [go_sem,h0,h1,h2,h3,h4,h5,h6,h7,g0,g1,g2,g3,g4,g5,g6,g7]
 have b0:=zaR l 0
 have b1:=zaR l 1
 have b2:=zaR l 2
 have b3:=zaR l 3
 have b4:=zaR l 4
 have b5:=zaR l 5
 have b6:=zaR l 6
 have b7:=zaR l 7
 rw [yx (bL l 7) (by omega),qB (k:=8) (by omega) b6 (by omega),qB (k:=16) (by omega) b5 (by omega),qB (k:=24) (by omega) b4 (by omega),qB (k:=32) (by omega) b3 (by omega),qB (k:=40) (by omega) b2 (by omega),qB (k:=48) (by omega) b1 (by omega),qB (k:=56) (by omega) b0 (by omega)]
 exact congrArg (fun n:Nat=>vU n) (by simp only [xS];omega)
structure MDig where
 a:Nat
 b:Nat
 c:Nat
 d:Nat
def MDig.cs (d:MDig):List AV:=[vU d.a,vU d.b,vU d.c,vU d.d]
attribute [go_sem] MDig.cs
def zic (l:List UInt8):MDig:=⟨xS l 8,xS (l.drop 8) 8,xS (l.drop 16) 8,xS (l.drop 24) 8⟩
theorem zmO (l:List UInt8) (h:l.length=32):CallR Tryz.prog 122 [.ro 1 (l.map zt)] (.agg (zic l).cs) []:=by
 refine zj zq0 false Tryz.f122 ?_
 conv=>enter [1];reduce
 refine jvR Tryz.f122 22 [.cell 2 25] (by kernel_rfl) (by decide +kernel) rfl ?_
 have e8:(8:Int)≤(l.length:Int)∧(l.length:Int)≤(l.length:Int):=by omega
 have e16:(16:Int)≤(l.length:Int)∧(l.length:Int)≤(l.length:Int):=by omega
 have e24:(24:Int)≤(l.length:Int)∧(l.length:Int)≤(l.length:Int):=by omega
 have t8:List.take (l.length - 8) (List.drop 8 l)=List.drop 8 l:=List.take_of_length_le (by simp)
 have t16:List.take (l.length - 16) (List.drop 16 l)=List.drop 16 l:=List.take_of_length_le (by simp)
 have t24:List.take (l.length - 24) (List.drop 24 l)=List.drop 24 l:=List.take_of_length_le (by simp)
 simp -implicitDefEqProofs only [go_sem,Option.getD_none,e8,e16,e24,t8,t16,t24]
 refine Want.intro (zg7 l (by omega)) ?_
 simp -implicitDefEqProofs only [go_sem]
 refine Want.intro (zg7 (l.drop 8) (by simp;omega)) ?_
 simp -implicitDefEqProofs only [go_sem]
 refine Want.intro (zg7 (l.drop 16) (by simp;omega)) ?_
 simp -implicitDefEqProofs only [go_sem]
 refine Want.intro (zg7 (l.drop 24) (by simp;omega)) ?_
 simp -implicitDefEqProofs only [go_sem]
 rfl
theorem zoC (s:ByteArray) (a i:Nat):bN s (a+i)=bL (s.data.toList.drop a) i:=by
 unfold bN bL
 rw [List.getD_eq_getElem?_getD,List.getElem?_drop,Array.getElem?_toList]
 show (s.data[a+i]!).toNat=_
 rw [getElem!_def]
 cases s.data[a+i]?<;>rfl
theorem zii (s:ByteArray) (a k:Nat):jI s a k=xS (s.data.toList.drop a) k:=by
 induction k with
 | zero=>rfl
 | succ k ih=>simp only [jI,xS,ih,zoC]
def yB (s:ByteArray):MDig × Bool:=if s.size=32 then (zic s.data.toList,true) else (⟨0,0,0,0⟩,false)
theorem zry (s:ByteArray) (hs:s.size≤9000000000000000000):CallR Tryz.prog 127 [vS s] (.tup [.agg (yB s).1.cs,vB (yB s).2]) []:=by
 refine zj zq0 false Tryz.f127 ?_
 conv=>enter [1];reduce
 refine jvR Tryz.f127 17 [.cell 2 25,.tmp 3] (by kernel_rfl) (by decide +kernel) rfl ?_
 simp -implicitDefEqProofs only [go_sem]
 refine zi (fun h=>?_) (fun h=>?_)
 ·have h':s.size≠32:=by have:=bne_iff_ne.1 h;omega
  simp -implicitDefEqProofs only [go_sem,h,yB,h']
  rfl
 ·have h':s.size=32:=by have:=bne_eq_false_iff_eq.1 h;omega
  simp -implicitDefEqProofs only [go_sem,h]
  repeat' first | (refine Want.intro (by first | exact wI s 0 (by omega) hs | exact wI s 8 (by omega) hs | exact wI s 16 (by omega) hs | exact wI s 24 (by omega) hs) ?_;try simp -implicitDefEqProofs only [go_sem]) | (refine WantM.intro (by first | exact wI s 0 (by omega) hs | exact wI s 8 (by omega) hs | exact wI s 16 (by omega) hs | exact wI s 24 (by omega) hs) ?_;try simp -implicitDefEqProofs only [go_sem]) | (refine zm (fun h=>?_) (fun h=>?_)<;>try simp -implicitDefEqProofs only [go_sem,h]) | (refine zi (fun h=>?_) (fun h=>?_)<;>try simp -implicitDefEqProofs only [go_sem,h])
  simp only [yB,h',if_true,zic,zii,List.drop_zero]
theorem zrs (s:ByteArray) (hs:s.size≤9000000000000000000):CallR Tryz.prog 152 [vS s] (.tup [.agg (yB s).1.cs,vB (yB s).2]) []:=by
 refine zj zq0 false Tryz.f152 ?_
 conv=>enter [1];reduce
 refine jvR Tryz.f152 11 [.cell 2 25,.tmp 3] (by kernel_rfl) (by decide +kernel) rfl ?_
 simp -implicitDefEqProofs only [go_sem]
 refine zi (fun h=>?_) (fun h=>?_)
 ·have h':s.size≠32:=by have:=bne_iff_ne.1 h;omega
  simp -implicitDefEqProofs only [go_sem,h,yB,h']
  rfl
 ·have h':s.size=32:=by have:=bne_eq_false_iff_eq.1 h;omega
  simp -implicitDefEqProofs only [go_sem,h]
  refine Want.intro (zmO s.data.toList (by rw [Array.length_toList];exact h')) ?_
  simp -implicitDefEqProofs only [go_sem]
  simp only [yB,h',if_true]
end Go.Proofs.YtpjpkmhaffmbmaaGreat.E
end
section
namespace Go.Proofs.YtpjpkmhaffmbmaaGreat.E
open Go Go.RowKit
set_option maxHeartbeats 4000000
set_option maxRecDepth 10000
set_option linter.unusedSimpArgs false
set_option linter.unusedVariables false
set_option linter.unusedSectionVars false
def zlP:Dec:=⟨[(66,.cm [true,false]),(67,.cm [true,false,false]),(100,.cm [true,false])],[9,10,11],[22,30,37,38,39,40,49,56,76,80,87,141,143,159,237,250,259],false⟩
def mIn (a b c:Int):Bool:=decide (b≤a)&&decide (a≤c)
structure MRd where
 t:ByteArray
 p:Nat
 code:Int
 at_:Int
def MRd.cs (r:MRd):List AV:=[vS r.t,vI r.p,vI r.code,vI r.at_]
def MRd.row (r:MRd):Sig:=[(1000000,0,one ⟨4,[r.cs],0,false⟩)]
attribute [go_sem] MRd.cs MRd.row
abbrev vP:AV:=.ptr 1000000 0 [] 4 0 0
def xX (r:MRd) (c a:Int):MRd:=if r.code=0 then ⟨r.t,r.p,c,a⟩ else r
def xJ (r:MRd) (n:Nat):ByteArray × MRd:=if r.code=0 then (if r.p+n>r.t.size then (⟨#[]⟩,⟨r.t,r.p,2,r.t.size⟩) else (r.t.extract r.p (r.p+n),⟨r.t,r.p+n,r.code,r.at_⟩)) else (⟨#[]⟩,r)
theorem zao (a b c:Int):CallR Tryz.prog 48 [vI a,vI b,vI c] (vB (mIn a b c)) []:=by
 refine zj zlP false Tryz.f48 ?_
 conv=>enter [1];reduce
 refine jvR Tryz.f48 15 [.tmp 6] (by kernel_rfl) (by decide +kernel) rfl ?_
 simp -implicitDefEqProofs only [go_sem]
 refine zm (fun h=>?_) (fun h=>?_)
 ·simp -implicitDefEqProofs only [go_sem,h]
  simp_all [mIn]
 ·simp -implicitDefEqProofs only [go_sem,h]
  simp_all [mIn]
  omega
theorem qq (a b c:Int):CallR Tryz.prog 99 [vI a,vI b,vI c] (vB (mIn a b c)) []:=by
 refine zj zlP false Tryz.f99 ?_
 conv=>enter [1];reduce
 refine jvR Tryz.f99 15 [.tmp 6] (by kernel_rfl) (by decide +kernel) rfl ?_
 simp -implicitDefEqProofs only [go_sem]
 refine zm (fun h=>?_) (fun h=>?_)
 ·simp -implicitDefEqProofs only [go_sem,h]
  simp_all [mIn]
 ·simp -implicitDefEqProofs only [go_sem,h]
  simp_all [mIn]
  omega
theorem zct (r:MRd) (c a:Int):zS Tryz.prog 67 r.row [vP,vI c,vI a] (.tup []) (xX r c a).row:=by
 refine zj zlP false Tryz.f67 ?_
 conv=>enter [1];reduce
 refine jvM Tryz.f67 18 [] (by kernel_rfl) (by decide +kernel) rfl ?_
 simp -implicitDefEqProofs only [go_sem]
 refine zi (fun h=>?_) (fun h=>?_)
 ·have h':r.code=0:=by simpa using h
  simp -implicitDefEqProofs only [go_sem,h,xX,h']
 ·have h':¬r.code=0:=by simpa using h
  simp -implicitDefEqProofs only [go_sem,h,xX,h']
theorem zol (r:MRd) (n:Nat) (hn:n≤1000) (hp:r.p≤r.t.size) (ht:r.t.size≤1000000000000):zS Tryz.prog 66 r.row [vP,vI n] (vS (xJ r n).1) (xJ r n).2.row:=by
 refine zj zlP false Tryz.f66 ?_
 conv=>enter [1];reduce
 refine jvM Tryz.f66 56 [.tmp 4] (by kernel_rfl) (by decide +kernel) rfl ?_
 simp -implicitDefEqProofs only [go_sem]
 refine zi (fun h=>?_) (fun h=>?_)
 ·have h':¬r.code=0:=by simpa using h
  simp -implicitDefEqProofs only [go_sem,h,xJ,h']
 ·have h':r.code=0:=by simpa using h
  have hw1:IntKind.i64.wrap ((r.t.size:Int) - r.p)=(r.t.size:Int) - r.p:=wrS (by omega)
  have hw2:IntKind.i64.wrap ((r.p:Int)+n)=((r.p+n:Nat):Int):=by rw [wrS (by omega)];rfl
  simp -implicitDefEqProofs only [go_sem,h,hw1,hw2]
  refine zi (fun h=>?_) (fun h=>?_)
  ·have hd:r.p+n>r.t.size:=by have:=of_decide_eq_true h;omega
   simp -implicitDefEqProofs only [go_sem,h]
   refine WantM.intro (zct r 2 r.t.size) ?_
   simp -implicitDefEqProofs only [go_sem,xX,h',xJ,hd]
  ·have hd:¬r.p+n>r.t.size:=by have:=of_decide_eq_false h;omega
   have hsl:(r.p:Int)≤((r.p+n:Nat):Int)∧((r.p+n:Nat):Int)≤(r.t.size:Int):=by omega
   simp -implicitDefEqProofs only [go_sem,h,hw1,hw2,xJ,h',hd,hsl]
theorem zhb (r:MRd) (n:Nat) (hn:n≤1000) (hp:r.p≤r.t.size) (ht:r.t.size≤1000000000000):zS Tryz.prog 100 r.row [vP,vI n] (vS (xJ r n).1) (xJ r n).2.row:=by
 refine zj zlP false Tryz.f100 ?_
 conv=>enter [1];reduce
 refine jvM Tryz.f100 55 [.tmp 4] (by kernel_rfl) (by decide +kernel) rfl ?_
 simp -implicitDefEqProofs only [go_sem]
 refine zi (fun h=>?_) (fun h=>?_)
 ·have h':¬r.code=0:=by simpa using h
  simp -implicitDefEqProofs only [go_sem,h,xJ,h']
 ·have h':r.code=0:=by simpa using h
  have hw2:IntKind.i64.wrap ((r.p:Int)+n)=((r.p+n:Nat):Int):=by rw [wrS (by omega)];rfl
  have hw3:IntKind.i64.wrap (((r.p+n:Nat):Int) - n)=(r.p:Int):=by rw [wrS (by omega)];omega
  simp -implicitDefEqProofs only [go_sem,h,hw2]
  refine zi (fun h=>?_) (fun h=>?_)
  ·have hd:r.p+n>r.t.size:=by have:=of_decide_eq_true h;omega
   simp -implicitDefEqProofs only [go_sem,h,h',xJ,hd]
  ·have hd:¬r.p+n>r.t.size:=by have:=of_decide_eq_false h;omega
   have hsl:(r.p:Int)≤((r.p+n:Nat):Int)∧((r.p+n:Nat):Int)≤(r.t.size:Int):=by omega
   simp -implicitDefEqProofs only [go_sem,h,hw2,hw3,xJ,h',hd,hsl]
def zcj (s:ByteArray):Nat→Nat
 | 0=>0
 | k+1=>256 * zcj s k+bN s k
theorem znw (s:ByteArray) (k:Nat):zcj s k<256 ^ k:=by
 induction k with
 | zero=>simp [zcj]
 | succ k ih=>
  have:=zgj s k
  simp only [zcj,Nat.pow_succ]
  omega
theorem zgL (s:ByteArray) {k:Nat} (h:k≤3):zcj s k<16777216:=Nat.lt_of_lt_of_le (znw s k) (by
 have:256 ^ k≤256 ^ 3:=Nat.pow_le_pow_right (by omega) h
 omega)
def yl (r:MRd) (n:Nat) (low high:Int):Int × MRd:=
 if (xJ r n).2.code=0 then
  (if mIn (zcj (xJ r n).1 (xJ r n).1.size) low high then (zcj (xJ r n).1 (xJ r n).1.size,(xJ r n).2) else (0,⟨(xJ r n).2.t,(xJ r n).2.p,3,r.p⟩))
 else (0,(xJ r n).2)
theorem wj (r:MRd) (n:Nat):(xJ r n).1.size≤n:=by
 unfold xJ
 split
 ·split
  ·simp [ByteArray.size]
  ·rw [ByteArray.size_extract];omega
 ·simp [ByteArray.size]
theorem zb6 (r:MRd) (n:Nat) (low high:Int) (hn:n≤3) (hp:r.p≤r.t.size) (ht:r.t.size≤1000000000000):zS Tryz.prog 102 r.row [vP,vI n,vI low,vI high] (vI (yl r n low high).1) (yl r n low high).2.row:=by
 refine zj zlP false Tryz.f102 ?_
 conv=>enter [1];reduce
 refine jvM Tryz.f102 50 [.tmp 8] (by kernel_rfl) (by decide +kernel) rfl ?_
 simp -implicitDefEqProofs only [go_sem]
 refine WantM.intro (zhb r n (by omega) hp ht) ?_
 have hsz:=wj r n
 unfold yl
 generalize xJ r n=x at *
 obtain ⟨b,t1,p1,c1,a1⟩:=x
 simp only at *
 simp -implicitDefEqProofs only [go_sem]
 refine zi (fun h=>?_) (fun h=>?_)
 ·have h':¬c1=0:=by simpa using h
  simp -implicitDefEqProofs only [go_sem,h,h']
 ·have h':c1=0:=by simpa using h
  subst h'
  simp -implicitDefEqProofs only [go_sem,h]
  refine zU (fun m z=>∃k,k≤b.size∧m=b.size - k∧z=⟨50,[(0,vP),(2,vI low),(3,vI high),(9,vI r.p),(10,vS b),(11,vI (zcj b k)),(12,vI k)],[(1000000,0,one ⟨4,[[vS t1,vI p1,vI 0,vI a1]],0,false⟩)],1⟩) b.size ?_ ?_
  ·simp -implicitDefEqProofs only [go_sem]
   exact ⟨0,Nat.zero_le _,rfl,rfl⟩
  ·rintro m z ⟨k,hk,rfl,rfl⟩
   rcases Nat.lt_or_ge k b.size with hlt | hge
   ·have hlt':(k:Int)<(b.size:Int):=by omega
    have hg:=qF (s:=b) (i:=k) hlt
    have hb:=zgj b k
    have hv:=zgL b (k:=k) (by omega)
    have w1:IntKind.i64.wrap (bN b k:Int)=(bN b k:Int):=wrS (by omega)
    have w2:IntKind.i64.wrap (256 * (zcj b k:Int))=((256 * zcj b k:Nat):Int):=by rw [wrS (by omega)];omega
    have w3:IntKind.i64.wrap (((256 * zcj b k:Nat):Int)+(bN b k:Int))=((256 * zcj b k+bN b k:Nat):Int):=by rw [wrS (by omega)];omega
    have w4:IntKind.i64.wrap ((k:Int)+1)=((k+1:Nat):Int):=by rw [wrS (by omega)];omega
    simp -implicitDefEqProofs only [go_sem,hlt',hg,w1,w2,w3,w4]
    exact ⟨_,by omega,k+1,hlt,rfl,rfl⟩
   ·have hk:k=b.size:=by omega
    subst hk
    have hlt':¬((b.size:Int)<(b.size:Int)):=by omega
    simp -implicitDefEqProofs only [go_sem,hlt']
    refine Want.intro (qq _ _ _) ?_
    simp -implicitDefEqProofs only [go_sem]
    cases hin:mIn (zcj b b.size:Int) low high with
    | true=>simp -implicitDefEqProofs only [go_sem,hin,zb,za]
    | false=>simp -implicitDefEqProofs only [go_sem,hin,zb,za]
theorem xv (r:MRd) (n:Nat) (low high:Int) (hn:n≤3) (hp:r.p≤r.t.size) (ht:r.t.size≤1000000000000):zS Tryz.prog 63 r.row [vP,vI n,vI low,vI high] (vI (yl r n low high).1) (yl r n low high).2.row:=by
 refine zj zlP false Tryz.f63 ?_
 conv=>enter [1];reduce
 refine jvM Tryz.f63 56 [.tmp 8] (by kernel_rfl) (by decide +kernel) rfl ?_
 simp -implicitDefEqProofs only [go_sem]
 refine WantM.intro (zol r n (by omega) hp ht) ?_
 have hsz:=wj r n
 unfold yl
 generalize xJ r n=x at *
 obtain ⟨b,t1,p1,c1,a1⟩:=x
 simp only at *
 simp -implicitDefEqProofs only [go_sem]
 refine zU (fun m z=>∃k,k≤b.size∧m=b.size - k∧z=⟨56,[(0,vP),(2,vI low),(3,vI high),(9,vI r.p),(10,vS b),(11,vI (zcj b k)),(12,vI k)],[(1000000,0,one ⟨4,[[vS t1,vI p1,vI c1,vI a1]],0,false⟩)],1⟩) b.size ?_ ?_
 ·simp -implicitDefEqProofs only [go_sem]
  exact ⟨0,Nat.zero_le _,rfl,rfl⟩
 ·rintro m z ⟨k,hk,rfl,rfl⟩
  rcases Nat.lt_or_ge k b.size with hlt | hge
  ·have hlt':(k:Int)<(b.size:Int):=by omega
   have hg:=qF (s:=b) (i:=k) hlt
   have hb:=zgj b k
   have hv:=zgL b (k:=k) (by omega)
   have w1:IntKind.i64.wrap (bN b k:Int)=(bN b k:Int):=wrS (by omega)
   have w2:IntKind.i64.wrap (256 * (zcj b k:Int))=((256 * zcj b k:Nat):Int):=by rw [wrS (by omega)];omega
   have w3:IntKind.i64.wrap (((256 * zcj b k:Nat):Int)+(bN b k:Int))=((256 * zcj b k+bN b k:Nat):Int):=by rw [wrS (by omega)];omega
   have w4:IntKind.i64.wrap ((k:Int)+1)=((k+1:Nat):Int):=by rw [wrS (by omega)];omega
   simp -implicitDefEqProofs only [go_sem,hlt',hg,w1,w2,w3,w4]
   exact ⟨_,by omega,k+1,hlt,rfl,rfl⟩
  ·have hk:k=b.size:=by omega
   subst hk
   have hlt':¬((b.size:Int)<(b.size:Int)):=by omega
   simp -implicitDefEqProofs only [go_sem,hlt']
   refine zm (fun h=>?_) (fun h=>?_)
   ·have h':c1=0:=by simpa using h
    subst h'
    simp -implicitDefEqProofs only [go_sem]
    refine Want.intro (zao _ _ _) ?_
    simp -implicitDefEqProofs only [go_sem]
    cases hin:mIn (zcj b b.size:Int) low high with
    | true=>simp -implicitDefEqProofs only [go_sem,hin,zb,za,bne_self_eq_false]
    | false=>
     simp -implicitDefEqProofs only [go_sem,hin,zb,za]
     refine WantM.intro (zct ⟨t1,p1,0,a1⟩ 3 r.p) ?_
     simp -implicitDefEqProofs only [go_sem,xX,zb,za]
   ·have h':¬c1=0:=by simpa using h
    have h2:(c1 != 0)=true:=by simpa using h'
    simp -implicitDefEqProofs only [go_sem,h,h',h2,zb,za]
def xE (r:MRd):MDig × MRd:=((yB (xJ r 32).1).1,(xJ r 32).2)
theorem zlW (r:MRd) (hp:r.p≤r.t.size) (ht:r.t.size≤1000000000000):zS Tryz.prog 65 r.row [vP] (.agg (xE r).1.cs) (xE r).2.row:=by
 refine zj zlP false Tryz.f65 ?_
 conv=>enter [1];reduce
 refine jvM Tryz.f65 12 [.cell 2 25] (by kernel_rfl) (by decide +kernel) rfl ?_
 simp -implicitDefEqProofs only [go_sem]
 refine WantM.intro (zol r 32 (by omega) hp ht) ?_
 have hsz:=wj r 32
 unfold xE
 generalize xJ r 32=x at *
 obtain ⟨b,t1,p1,c1,a1⟩:=x
 simp only at *
 simp -implicitDefEqProofs only [go_sem]
 refine Want.intro (zry b (by omega)) ?_
 simp -implicitDefEqProofs only [go_sem]
theorem zmT (r:MRd) (hp:r.p≤r.t.size) (ht:r.t.size≤1000000000000):zS Tryz.prog 103 r.row [vP] (.agg (xE r).1.cs) (xE r).2.row:=by
 refine zj zlP false Tryz.f103 ?_
 conv=>enter [1];reduce
 refine jvM Tryz.f103 12 [.cell 2 25] (by kernel_rfl) (by decide +kernel) rfl ?_
 simp -implicitDefEqProofs only [go_sem]
 refine WantM.intro (zhb r 32 (by omega) hp ht) ?_
 have hsz:=wj r 32
 unfold xE
 generalize xJ r 32=x at *
 obtain ⟨b,t1,p1,c1,a1⟩:=x
 simp only at *
 simp -implicitDefEqProofs only [go_sem]
 refine Want.intro (zrs b (by omega)) ?_
 simp -implicitDefEqProofs only [go_sem]
end Go.Proofs.YtpjpkmhaffmbmaaGreat.E
end
section
namespace Go.Proofs.YtpjpkmhaffmbmaaGreat.E
open Go Go.RowKit
set_option maxHeartbeats 4000000
set_option maxRecDepth 10000
set_option linter.unusedSimpArgs false
set_option linter.unusedVariables false
set_option linter.unusedSectionVars false
def dcD3:Dec:=⟨[],[9,10,11],[22,30,37,38,39,40,49,56,76,80,87,141,143,159,237,250,259],false⟩
def zfQ (l:List UInt8) (c:Nat):Bool:=l.any fun b=>b.toNat==c
def zM (s:ByteArray) (c:Nat):Bool:=zfQ s.data.toList c
@[go_sem] theorem zqy:zM ⟨#[115]⟩ 115=true:=rfl
@[go_sem] theorem zqD:zM ⟨#[115]⟩ 102=false:=rfl
@[go_sem] theorem zqB:zM ⟨#[115]⟩ 110=false:=rfl
@[go_sem] theorem zqz:zM ⟨#[115]⟩ 114=false:=rfl
@[go_sem] theorem has_s_99:zM ⟨#[115]⟩ 99=false:=rfl
@[go_sem] theorem zqA:zM ⟨#[115]⟩ 112=false:=rfl
@[go_sem] theorem zqC:zM ⟨#[115]⟩ 108=false:=rfl
@[go_sem] theorem znR:zM ⟨#[115,110,114]⟩ 115=true:=rfl
@[go_sem] theorem znW:zM ⟨#[115,110,114]⟩ 102=false:=rfl
@[go_sem] theorem znU:zM ⟨#[115,110,114]⟩ 110=true:=rfl
@[go_sem] theorem znS:zM ⟨#[115,110,114]⟩ 114=true:=rfl
@[go_sem] theorem zo2:zM ⟨#[115,110,114]⟩ 99=false:=rfl
@[go_sem] theorem znT:zM ⟨#[115,110,114]⟩ 112=false:=rfl
@[go_sem] theorem znV:zM ⟨#[115,110,114]⟩ 108=false:=rfl
@[go_sem] theorem zo4:zM ⟨#[102,110]⟩ 115=false:=rfl
@[go_sem] theorem zo9:zM ⟨#[102,110]⟩ 102=true:=rfl
@[go_sem] theorem zo7:zM ⟨#[102,110]⟩ 110=true:=rfl
@[go_sem] theorem zo5:zM ⟨#[102,110]⟩ 114=false:=rfl
@[go_sem] theorem zqE:zM ⟨#[102,110]⟩ 99=false:=rfl
@[go_sem] theorem zo6:zM ⟨#[102,110]⟩ 112=false:=rfl
@[go_sem] theorem zo8:zM ⟨#[102,110]⟩ 108=false:=rfl
@[go_sem] theorem znX:zM ⟨#[102,110,112]⟩ 115=false:=rfl
@[go_sem] theorem zn2:zM ⟨#[102,110,112]⟩ 102=true:=rfl
@[go_sem] theorem zn0:zM ⟨#[102,110,112]⟩ 110=true:=rfl
@[go_sem] theorem znY:zM ⟨#[102,110,112]⟩ 114=false:=rfl
@[go_sem] theorem zo3:zM ⟨#[102,110,112]⟩ 99=false:=rfl
@[go_sem] theorem znZ:zM ⟨#[102,110,112]⟩ 112=true:=rfl
@[go_sem] theorem zn1:zM ⟨#[102,110,112]⟩ 108=false:=rfl
@[go_sem] theorem zpg:zM ⟨#[102,99]⟩ 115=false:=rfl
@[go_sem] theorem zpl:zM ⟨#[102,99]⟩ 102=true:=rfl
@[go_sem] theorem zpj:zM ⟨#[102,99]⟩ 110=false:=rfl
@[go_sem] theorem zph:zM ⟨#[102,99]⟩ 114=false:=rfl
@[go_sem] theorem zqG:zM ⟨#[102,99]⟩ 99=true:=rfl
@[go_sem] theorem zpi:zM ⟨#[102,99]⟩ 112=false:=rfl
@[go_sem] theorem zpk:zM ⟨#[102,99]⟩ 108=false:=rfl
@[go_sem] theorem zpa:zM ⟨#[102,108]⟩ 115=false:=rfl
@[go_sem] theorem zpf:zM ⟨#[102,108]⟩ 102=true:=rfl
@[go_sem] theorem zpd:zM ⟨#[102,108]⟩ 110=false:=rfl
@[go_sem] theorem zpb:zM ⟨#[102,108]⟩ 114=false:=rfl
@[go_sem] theorem zqF:zM ⟨#[102,108]⟩ 99=false:=rfl
@[go_sem] theorem zpc:zM ⟨#[102,108]⟩ 112=false:=rfl
@[go_sem] theorem zpe:zM ⟨#[102,108]⟩ 108=true:=rfl
def l5H (k:Int):ByteArray:=
 if k=1 then ⟨#[115]⟩ else if k=2∨k=3∨k=6 then ⟨#[115,110,114]⟩ else if k=4 then ⟨#[102,110]⟩ else if k=5 then ⟨#[102,110,112]⟩ else if k=7 then ⟨#[102,99]⟩ else if k=8 then ⟨#[102,108]⟩ else ⟨#[]⟩
theorem zlX (k:Int):CallR Tryz.prog 62 [vI k] (vS (l5H k)) []:=by
 refine zj dcD3 false Tryz.f62 ?_
 conv=>enter [1];reduce
 refine jvR Tryz.f62 23 [.tmp 2] (by kernel_rfl) (by decide +kernel) rfl ?_
 simp -implicitDefEqProofs only [go_sem]
 repeat' first | (refine zm (fun h=>?_) (fun h=>?_)<;>try simp -implicitDefEqProofs only [go_sem,h]) | (refine zi (fun h=>?_) (fun h=>?_)<;>try simp -implicitDefEqProofs only [go_sem,h])
 all_goals simp_all [l5H]
 all_goals (try omega)
 all_goals trace_state
theorem zcR {s:ByteArray} {i c:Nat} (h:i<s.size):zfQ (s.data.toList.drop i) c=((bN s i==c)||zfQ (s.data.toList.drop (i+1)) c):=by
 have h':i<s.data.toList.length:=by rw [Array.length_toList];exact h
 rw [List.drop_eq_getElem_cons h']
 unfold zfQ
 rw [List.any_cons]
 congr 2
 have:=zoC s i 0
 rw [Nat.add_zero] at this
 rw [this]
 unfold bL
 rw [List.drop_eq_getElem_cons h']
 rfl
theorem zh (s:ByteArray) (c:Nat) (hs:s.size≤1000000000000):CallR Tryz.prog 64 [vS s,.sc (.int .u8 (c:Int))] (vB (zM s c)) []:=by
 refine zj dcD3 false Tryz.f64 ?_
 conv=>enter [1];reduce
 refine jvR Tryz.f64 17 [.tmp 4] (by kernel_rfl) (by decide +kernel) rfl ?_
 simp -implicitDefEqProofs only [go_sem]
 refine zU (fun m z=>∃i,i≤s.size∧m=s.size - i∧zfQ (s.data.toList.drop i) c=zM s c∧z=⟨17,[(0,vS s),(1,.sc (.int .u8 (c:Int))),(5,vI i)],[],1⟩) s.size ?_ ?_
 ·simp -implicitDefEqProofs only [go_sem]
  exact ⟨0,Nat.zero_le _,rfl,rfl,rfl⟩
 ·rintro m z ⟨i,hi,rfl,hx,rfl⟩
  rcases Nat.lt_or_ge i s.size with hlt | hge
  ·have hlt':(i:Int)<(s.size:Int):=by omega
   have hg:=qF (s:=s) (i:=i) hlt
   have w4:IntKind.i64.wrap ((i:Int)+1)=((i+1:Nat):Int):=by rw [wrS (by omega)];omega
   rw [zcR hlt] at hx
   simp -implicitDefEqProofs only [go_sem,hlt',hg]
   refine zi (fun h=>?_) (fun h=>?_)
   ·have h2:bN s i=c:=by have:=of_decide_eq_true h;omega
    simp -implicitDefEqProofs only [go_sem,h]
    rw [←hx,h2]
    simp
   ·have h2:¬bN s i=c:=fun e=>by rw [e] at h;simp at h
    simp -implicitDefEqProofs only [go_sem,h,w4]
    refine ⟨_,by omega,i+1,hlt,rfl,?_,rfl⟩
    rw [←hx]
    simp [h2]
  ·have hi:i=s.size:=by omega
   subst hi
   have hlt':¬((s.size:Int)<(s.size:Int)):=by omega
   simp -implicitDefEqProofs only [go_sem,hlt']
   rw [←hx]
   rw [List.drop_of_length_le (by rw [Array.length_toList];exact Nat.le_refl _)]
   rfl
def l5P (k:Int):ByteArray:=
 if k=1 then ⟨#[115]⟩ else if k=2∨k=3∨k=6 then ⟨#[115,122,114]⟩ else if k=4 then ⟨#[102,122]⟩ else if k=5 then ⟨#[102,122,112]⟩ else if k=7 then ⟨#[102,99]⟩ else if k=8 then ⟨#[102,108]⟩ else ⟨#[]⟩
theorem zmU (k:Nat):CallR Tryz.prog 101 [vI k] (vS (l5P k)) []:=by
 refine zj dcD3 false Tryz.f101 ?_
 conv=>enter [1];reduce
 refine jvR Tryz.f101 10 [.tmp 2] (by kernel_rfl) (by decide +kernel) rfl ?_
 simp -implicitDefEqProofs only [go_sem]
 refine Want.intro (qq _ _ _) ?_
 simp -implicitDefEqProofs only [go_sem]
 refine zi (fun h=>?_) (fun h=>?_)
 ·simp -implicitDefEqProofs only [go_sem,h]
  have:¬(1≤(k:Int)∧(k:Int)≤8):=fun hh=>by simp [mIn,hh.1,hh.2] at h
  rw [l5P,if_neg (by omega),if_neg (by omega),if_neg (by omega),if_neg (by omega),if_neg (by omega),if_neg (by omega)]
 ·have hk:1≤k∧k≤8:=by
   have:1≤(k:Int)∧(k:Int)≤8:=by simpa [mIn] using h
   omega
  have:k=1∨k=2∨k=3∨k=4∨k=5∨k=6∨k=7∨k=8:=by omega
  rcases this with rfl | rfl | rfl | rfl | rfl | rfl | rfl | rfl<;>simp -implicitDefEqProofs only [go_sem,h,(by decide:((1:Nat):Int)<((9:Nat):Int)),(by decide:((2:Nat):Int)<((9:Nat):Int)),(by decide:((3:Nat):Int)<((9:Nat):Int)),(by decide:((4:Nat):Int)<((9:Nat):Int)),(by decide:((5:Nat):Int)<((9:Nat):Int)),(by decide:((6:Nat):Int)<((9:Nat):Int)),(by decide:((7:Nat):Int)<((9:Nat):Int)),(by decide:((8:Nat):Int)<((9:Nat):Int))]
  all_goals rfl
end Go.Proofs.YtpjpkmhaffmbmaaGreat.E
end
section
namespace Go.Proofs.YtpjpkmhaffmbmaaGreat.E
open Go Go.RowKit
set_option maxHeartbeats 4000000
set_option maxRecDepth 10000
set_option linter.unusedSimpArgs false
set_option linter.unusedVariables false
set_option linter.unusedSectionVars false
def dcD4:Dec:=⟨[(63,.cm [true,false,false,false]),(65,.cm [true]),(66,.cm [true,false]),(67,.cm [true,false,false])],[9,10,11],[22,30,37,38,39,40,49,56,76,80,87,141,143,159,237,250,259],false⟩
structure MMsg where
 kind:Int
 session:Int
 from_:Int
 size:Int
 root:MDig
 count:Int
 proof:List MDig
 leaves:List ByteArray
def MMsg.zero:MMsg:=⟨0,0,0,0,⟨0,0,0,0⟩,0,[],[]⟩
def zs (s:ByteArray):List AV:=[vS s]
def MMsg.av (m:MMsg) (q:List Nat):AV:=.agg [vI m.kind,vI m.session,vI m.from_,vI m.size,vU m.root.a,vU m.root.b,vU m.root.c,vU m.root.d,vI m.count,.blk 0 0 (q++[9]) 4 0 m.proof.length,.blk 0 0 (q++[10]) 1 0 m.leaves.length]
def MMsg.rf (m:MMsg) (q:List Nat):List (List Nat × Row):=[(q++[9],⟨4,m.proof.map MDig.cs,2,false⟩),(q++[10],⟨1,m.leaves.map zs,2,false⟩)]
attribute [go_sem] MMsg.av MMsg.rf zs
structure RdOK (text:ByteArray) (r:MRd):Prop where
 t:r.t=text
 p:r.p≤text.size
theorem RdOK.raw {text:ByteArray} {r:MRd} (h:RdOK text r) (n:Nat):RdOK text (xJ r n).2:=by
 unfold xJ
 split
 ·split
  ·exact ⟨h.t,h.p⟩
  ·exact ⟨h.t,by have:=h.t;subst this;show r.p+n≤_;omega⟩
 ·exact h
theorem RdOK.num {text:ByteArray} {r:MRd} (h:RdOK text r) (n:Nat) (a b:Int):RdOK text (yl r n a b).2:=by
 have:=h.raw n
 unfold yl
 split
 ·split
  ·exact this
  ·exact ⟨this.t,this.p⟩
 ·exact this
theorem RdOK.dig {text:ByteArray} {r:MRd} (h:RdOK text r):RdOK text (xE r).2:=h.raw 32
def yI:Nat→MRd→List MDig × MRd
 | 0,r=>([],r)
 | n+1,r=>((yI n r).1++[(xE (yI n r).2).1],(xE (yI n r).2).2)
def zaO (r:MRd):ByteArray × MRd:=xJ (yl r 1 0 40).2 (yl r 1 0 40).1.toNat
def zK:Nat→MRd→List ByteArray × MRd
 | 0,r=>([],r)
 | n+1,r=>((zK n r).1++[(zaO (zK n r).2).1],(zaO (zK n r).2).2)
theorem RdOK.digs {text:ByteArray} {r:MRd} (h:RdOK text r) (n:Nat):RdOK text (yI n r).2:=by
 induction n with
 | zero=>exact h
 | succ n ih=>exact ih.dig
theorem RdOK.leafs {text:ByteArray} {r:MRd} (h:RdOK text r) (n:Nat):RdOK text (zK n r).2:=by
 induction n with
 | zero=>exact h
 | succ n ih=>exact (ih.num 1 0 40).raw _
def pS (x:MRd × MMsg):MRd × MMsg:=((yl x.1 3 1 1000000).2,{x.2 with session:=(yl x.1 3 1 1000000).1})
def pF (x:MRd × MMsg):MRd × MMsg:=((yl x.1 2 0 256).2,{x.2 with from_:=(yl x.1 2 0 256).1})
def pZ (x:MRd × MMsg):MRd × MMsg:=((yl x.1 2 0 256).2,{x.2 with size:=(yl x.1 2 0 256).1})
def pR (x:MRd × MMsg):MRd × MMsg:=((xE x.1).2,{x.2 with root:=(xE x.1).1})
def pC (x:MRd × MMsg):MRd × MMsg:=((yl x.1 1 1 8).2,{x.2 with count:=(yl x.1 1 1 8).1})
def pP (x:MRd × MMsg):MRd × MMsg:=((yI (yl x.1 1 0 16).1.toNat (yl x.1 1 0 16).2).2,{x.2 with proof:=(yI (yl x.1 1 0 16).1.toNat (yl x.1 1 0 16).2).1})
def pL (x:MRd × MMsg):MRd × MMsg:=((zK (yl x.1 1 0 8).1.toNat (yl x.1 1 0 8).2).2,{x.2 with leaves:=(zK (yl x.1 1 0 8).1.toNat (yl x.1 1 0 8).2).1})
def xo (k:Nat) (x:MRd × MMsg):MRd × MMsg:=match k with
 | 1=>pS x
 | 2=>pR (pZ (pS x))
 | 3=>pR (pZ (pS x))
 | 4=>pZ (pF x)
 | 5=>pP (pZ (pF x))
 | 6=>pR (pZ (pS x))
 | 7=>pC (pF x)
 | 8=>pL (pF x)
 | _=>x
def xk (text:ByteArray) (x:MRd × MMsg):MMsg × Int × Int:=
 if x.1.code=0 then (if x.1.p<text.size then (.zero,4,x.1.p) else (x.2,0,0)) else (.zero,x.1.code,x.1.at_)
def zl (text:ByteArray):MMsg × Int × Int:=
 if text.size=0 then (.zero,2,0) else if 1≤bN text 0∧bN text 0≤8 then xk text (xo (bN text 0) (⟨text,1,0,0⟩,{MMsg.zero with kind:=bN text 0})) else (.zero,1,0)
theorem zbH (i:Nat) (r:MRd):(yI i r).1.length=i:=by
 induction i with
 | zero=>rfl
 | succ i ih=>simp [yI,ih]
theorem zab (i:Nat) (r:MRd):(zK i r).1.length=i:=by
 induction i with
 | zero=>rfl
 | succ i ih=>simp [zK,ih]
theorem MDig.wide (l:List MDig):xT 4 (l.map MDig.cs)=true:=by
 induction l with
 | nil=>rfl
 | cons a l ih=>simp only [List.map_cons,xT,ih,MDig.cs];rfl
theorem MDig.flat (l:List MDig):flL (l.map MDig.cs)=2:=by
 induction l with
 | nil=>rfl
 | cons a l ih=>simp only [List.map_cons,flL,ih,MDig.cs];rfl
theorem zjI (l:List ByteArray):xT 1 (l.map zs)=true:=by
 induction l with
 | nil=>rfl
 | cons a l ih=>simp only [List.map_cons,xT,ih,zs];rfl
theorem zjJ (l:List ByteArray):flL (l.map zs)=2:=by
 induction l with
 | nil=>rfl
 | cons a l ih=>simp only [List.map_cons,flL,ih,zs];rfl
theorem zd4 {α β:Type} (f:α→β) (l:List α):List.take l.length (l.map f)=l.map f:=List.take_of_length_le (by simp)
theorem zeS {α:Type} (n:Nat) (x:α):List.drop n (List.replicate n x)=[]:=List.drop_of_length_le (by simp)
attribute [go_sem] MDig.wide MDig.flat zjI zjJ zd4 zeS
theorem zbs {a b:Nat} (h:a * b≤140737488355328) (hb:1≤b):a≤maxLen:=by
 have:a * 1≤a * b:=Nat.mul_le_mul_left a hb
 unfold maxLen;omega
theorem zH {α:Type} {E:α→List AV} {l:List α} {xs:List (List AV)} {b n:Nat} (hn:(l.length+xs.length)≤n) (h:n * b≤140737488355328) (hb:1≤b):(l.map E++xs).length≤maxLen∧(l.map E++xs).length * b≤140737488355328:=by
 have e:(l.map E++xs).length=l.length+xs.length:=by simp
 rw [e]
 have:=Nat.mul_le_mul_right b hn
 exact ⟨zbs (by omega) hb,by omega⟩
theorem jb (r:MRd) (n:Nat) (b:Int) (hb:0≤b):0≤(yl r n 0 b).1∧(yl r n 0 b).1≤b:=by
 unfold yl
 split
 ·split
  ·rename_i h1 h
   simp only [mIn,Bool.and_eq_true,decide_eq_true_eq] at h
   exact h
  ·exact ⟨Int.le_refl _,hb⟩
 ·exact ⟨Int.le_refl _,hb⟩
theorem jz:(⟨#[]⟩:ByteArray).toList=[]:=by
 simp [ByteArray.toList,ByteArray.toList.loop,ByteArray.size]
theorem tl_1 (a:UInt8):(⟨#[a]⟩:ByteArray).toList=[a]:=by
 simp [ByteArray.toList,ByteArray.toList.loop,ByteArray.size,ByteArray.get!]
theorem tl_2 (a b:UInt8):(⟨#[a,b]⟩:ByteArray).toList=[a,b]:=by
 simp [ByteArray.toList,ByteArray.toList.loop,ByteArray.size,ByteArray.get!]
theorem zpK (a b c:UInt8):(⟨#[a,b,c]⟩:ByteArray).toList=[a,b,c]:=by
 simp [ByteArray.toList,ByteArray.toList.loop,ByteArray.size,ByteArray.get!]
theorem zmV {s:ByteArray} (h:0<s.size):bN (s.extract 0 1) 0=bN s 0:=by
 have h':0<s.data.size:=h
 show (((s.extract 0 1).data[0]!).toNat)=(s.data[0]!).toNat
 rw [ByteArray.data_extract,getElem!_def,getElem!_def,Array.getElem?_extract]
 have h2:0<min 1 s.data.size:=by omega
 simp [h2]
 split<;>simp_all
theorem zhI {text:ByteArray} (h:0<text.size) (h1:1≤bN text 0∧bN text 0≤8):yl ⟨text,0,0,0⟩ 1 1 8=((bN text 0:Int),⟨text,1,0,0⟩):=by
 have hr:xJ ⟨text,0,0,0⟩ 1=(text.extract 0 1,⟨text,1,0,0⟩):=by
  unfold xJ
  rw [if_pos rfl,if_neg (show ¬0+1>text.size by omega)]
 have hs:(text.extract 0 1).size=1:=by rw [ByteArray.size_extract];omega
 unfold yl
 rw [hr]
 simp only [hs,zcj,Nat.mul_zero,Nat.zero_add,zmV h,if_true]
 rw [if_pos]
 simp [mIn]
 omega
theorem zor (text:ByteArray) (ht:text.size≤1000000000000):CallR Tryz.prog 16 [vS text] (.tup [(zl text).1.av [0],.agg [vI (zl text).2.1,vI (zl text).2.2]]) ((zl text).1.rf [0]):=by
 refine zj dcD4 false Tryz.f16 ?_
 conv=>enter [1];reduce
 refine jvR Tryz.f16 116 [.cell 2 58,.cell 3 60] (by kernel_rfl) (by decide +kernel) rfl ?_
 simp -implicitDefEqProofs only [go_sem]
 refine zi (fun h=>?_) (fun h=>?_)
 ·have h':text.size=0:=by simpa using h
  simp -implicitDefEqProofs only [go_sem,h,zl,h',MMsg.zero]
  rfl
 ·have h':¬text.size=0:=by simpa using h
  have hg:=qF (s:=text) (i:=0) (by omega)
  have hb:=zgj text 0
  have w1:IntKind.i64.wrap (bN text 0:Int)=(bN text 0:Int):=wrS (by omega)
  simp -implicitDefEqProofs only [go_sem,h,hg,w1]
  refine Want.intro (zlX _) ?_
  simp -implicitDefEqProofs only [go_sem]
  by_cases hin:1≤bN text 0∧bN text 0≤8
  ·have hf:=zhI (text:=text) (by omega) hin
   have r1:RdOK text ⟨text,1,0,0⟩:=⟨rfl,by show 1≤text.size;omega⟩
   have hk:bN text 0=1∨bN text 0=2∨bN text 0=3∨bN text 0=4∨bN text 0=5∨bN text 0=6∨bN text 0=7∨bN text 0=8:=by omega
   rcases hk with hk | hk | hk | hk | hk | hk | hk | hk
   ·have hH:l5H (bN text 0:Int)=⟨#[115]⟩:=by rw [hk];rfl
    have hP:∀x,xo (bN text 0) x=pS x:=fun x=>by rw [hk];rfl
    have he:((⟨#[115]⟩:ByteArray).toList==(⟨#[]⟩:ByteArray).toList)=false:=by rw [tl_1,jz];rfl
    simp -implicitDefEqProofs only [go_sem,hH,he]
    refine WantM.intro (xv ⟨text,0,0,0⟩ 1 1 8 (by omega) (Nat.zero_le _) ht) ?_
    simp -implicitDefEqProofs only [go_sem,hf]
    repeat (refine Want.intro (by first | exact zh _ 115 (by decide) | exact zh _ 102 (by decide) | exact zh _ 110 (by decide) | exact zh _ 114 (by decide) | exact zh _ 99 (by decide) | exact zh _ 112 (by decide) | exact zh _ 108 (by decide)) ?_;simp -implicitDefEqProofs only [go_sem])
    refine WantM.intro (xv ⟨text,1,0,0⟩ 3 1 1000000 (by omega) r1.p ht) ?_
    have r2:=r1.num 3 1 1000000
    generalize hn2:yl ⟨text,1,0,0⟩ 3 1 1000000=x at *
    obtain ⟨v2,t2,p2,c2,a2⟩:=x
    have ht2:t2=text:=r2.t
    subst t2
    simp -implicitDefEqProofs only [go_sem]
    repeat (refine Want.intro (by first | exact zh _ 115 (by decide) | exact zh _ 102 (by decide) | exact zh _ 110 (by decide) | exact zh _ 114 (by decide) | exact zh _ 99 (by decide) | exact zh _ 112 (by decide) | exact zh _ 108 (by decide)) ?_;simp -implicitDefEqProofs only [go_sem])
    have hM:zl text=xk text (⟨text,p2,c2,a2⟩,⟨bN text 0,v2,0,0,⟨0,0,0,0⟩,0,[],[]⟩):=by
     unfold zl
     rw [if_neg h',if_pos hin,hP]
     simp only [pS,pF,pZ,pR,pC,hn2]
     rfl
    refine zi (fun h=>?_) (fun h=>?_)
    ·have hp:p2<text.size:=by have:=of_decide_eq_true h;omega
     simp -implicitDefEqProofs only [go_sem,h]
     refine WantM.intro (zct ⟨text,p2,c2,a2⟩ 4 p2) ?_
     by_cases hc:c2=0
     ·simp -implicitDefEqProofs only [go_sem,xX,hM,xk,hc,hp,MMsg.zero]
      try rfl
     ·have hc2:(c2 != 0)=true:=by simpa using hc
      simp -implicitDefEqProofs only [go_sem,xX,hM,xk,hc,hc2,hp,MMsg.zero]
      try rfl
    ·have hp:¬p2<text.size:=by have:=of_decide_eq_false h;omega
     by_cases hc:c2=0
     ·subst hc
      simp -implicitDefEqProofs only [go_sem,h,hM,xk,hp,MMsg.zero]
      try rfl
     ·have hc2:(c2 != 0)=true:=by simpa using hc
      simp -implicitDefEqProofs only [go_sem,h,hM,xk,hc,hc2,hp,MMsg.zero]
      try rfl
   ·have hH:l5H (bN text 0:Int)=⟨#[115,110,114]⟩:=by rw [hk];rfl
    have hP:∀x,xo (bN text 0) x=pR (pZ (pS x)):=fun x=>by rw [hk];rfl
    have he:((⟨#[115,110,114]⟩:ByteArray).toList==(⟨#[]⟩:ByteArray).toList)=false:=by rw [zpK,jz];rfl
    simp -implicitDefEqProofs only [go_sem,hH,he]
    refine WantM.intro (xv ⟨text,0,0,0⟩ 1 1 8 (by omega) (Nat.zero_le _) ht) ?_
    simp -implicitDefEqProofs only [go_sem,hf]
    repeat (refine Want.intro (by first | exact zh _ 115 (by decide) | exact zh _ 102 (by decide) | exact zh _ 110 (by decide) | exact zh _ 114 (by decide) | exact zh _ 99 (by decide) | exact zh _ 112 (by decide) | exact zh _ 108 (by decide)) ?_;simp -implicitDefEqProofs only [go_sem])
    refine WantM.intro (xv ⟨text,1,0,0⟩ 3 1 1000000 (by omega) r1.p ht) ?_
    have r2:=r1.num 3 1 1000000
    generalize hn2:yl ⟨text,1,0,0⟩ 3 1 1000000=x at *
    obtain ⟨v2,t2,p2,c2,a2⟩:=x
    have ht2:t2=text:=r2.t
    subst t2
    simp -implicitDefEqProofs only [go_sem]
    repeat (refine Want.intro (by first | exact zh _ 115 (by decide) | exact zh _ 102 (by decide) | exact zh _ 110 (by decide) | exact zh _ 114 (by decide) | exact zh _ 99 (by decide) | exact zh _ 112 (by decide) | exact zh _ 108 (by decide)) ?_;simp -implicitDefEqProofs only [go_sem])
    refine WantM.intro (xv ⟨text,p2,c2,a2⟩ 2 0 256 (by omega) r2.p ht) ?_
    have r3:=r2.num 2 0 256
    generalize hn3:yl ⟨text,p2,c2,a2⟩ 2 0 256=x at *
    obtain ⟨v3,t3,p3,c3,a3⟩:=x
    have ht3:t3=text:=r3.t
    subst t3
    simp -implicitDefEqProofs only [go_sem]
    repeat (refine Want.intro (by first | exact zh _ 115 (by decide) | exact zh _ 102 (by decide) | exact zh _ 110 (by decide) | exact zh _ 114 (by decide) | exact zh _ 99 (by decide) | exact zh _ 112 (by decide) | exact zh _ 108 (by decide)) ?_;simp -implicitDefEqProofs only [go_sem])
    refine WantM.intro (zlW ⟨text,p3,c3,a3⟩ r3.p ht) ?_
    have r4:=r3.dig
    generalize hn4:xE ⟨text,p3,c3,a3⟩=x at *
    obtain ⟨⟨va4,vb4,vc4,vd4⟩,t4,p4,c4,a4⟩:=x
    have ht4:t4=text:=r4.t
    subst t4
    simp -implicitDefEqProofs only [go_sem]
    repeat (refine Want.intro (by first | exact zh _ 115 (by decide) | exact zh _ 102 (by decide) | exact zh _ 110 (by decide) | exact zh _ 114 (by decide) | exact zh _ 99 (by decide) | exact zh _ 112 (by decide) | exact zh _ 108 (by decide)) ?_;simp -implicitDefEqProofs only [go_sem])
    have hM:zl text=xk text (⟨text,p4,c4,a4⟩,⟨bN text 0,v2,0,v3,⟨va4,vb4,vc4,vd4⟩,0,[],[]⟩):=by
     unfold zl
     rw [if_neg h',if_pos hin,hP]
     simp only [pS,pF,pZ,pR,pC,hn2,hn3,hn4]
     rfl
    refine zi (fun h=>?_) (fun h=>?_)
    ·have hp:p4<text.size:=by have:=of_decide_eq_true h;omega
     simp -implicitDefEqProofs only [go_sem,h]
     refine WantM.intro (zct ⟨text,p4,c4,a4⟩ 4 p4) ?_
     by_cases hc:c4=0
     ·simp -implicitDefEqProofs only [go_sem,xX,hM,xk,hc,hp,MMsg.zero]
      try rfl
     ·have hc2:(c4 != 0)=true:=by simpa using hc
      simp -implicitDefEqProofs only [go_sem,xX,hM,xk,hc,hc2,hp,MMsg.zero]
      try rfl
    ·have hp:¬p4<text.size:=by have:=of_decide_eq_false h;omega
     by_cases hc:c4=0
     ·subst hc
      simp -implicitDefEqProofs only [go_sem,h,hM,xk,hp,MMsg.zero]
      try rfl
     ·have hc2:(c4 != 0)=true:=by simpa using hc
      simp -implicitDefEqProofs only [go_sem,h,hM,xk,hc,hc2,hp,MMsg.zero]
      try rfl
   ·have hH:l5H (bN text 0:Int)=⟨#[115,110,114]⟩:=by rw [hk];rfl
    have hP:∀x,xo (bN text 0) x=pR (pZ (pS x)):=fun x=>by rw [hk];rfl
    have he:((⟨#[115,110,114]⟩:ByteArray).toList==(⟨#[]⟩:ByteArray).toList)=false:=by rw [zpK,jz];rfl
    simp -implicitDefEqProofs only [go_sem,hH,he]
    refine WantM.intro (xv ⟨text,0,0,0⟩ 1 1 8 (by omega) (Nat.zero_le _) ht) ?_
    simp -implicitDefEqProofs only [go_sem,hf]
    repeat (refine Want.intro (by first | exact zh _ 115 (by decide) | exact zh _ 102 (by decide) | exact zh _ 110 (by decide) | exact zh _ 114 (by decide) | exact zh _ 99 (by decide) | exact zh _ 112 (by decide) | exact zh _ 108 (by decide)) ?_;simp -implicitDefEqProofs only [go_sem])
    refine WantM.intro (xv ⟨text,1,0,0⟩ 3 1 1000000 (by omega) r1.p ht) ?_
    have r2:=r1.num 3 1 1000000
    generalize hn2:yl ⟨text,1,0,0⟩ 3 1 1000000=x at *
    obtain ⟨v2,t2,p2,c2,a2⟩:=x
    have ht2:t2=text:=r2.t
    subst t2
    simp -implicitDefEqProofs only [go_sem]
    repeat (refine Want.intro (by first | exact zh _ 115 (by decide) | exact zh _ 102 (by decide) | exact zh _ 110 (by decide) | exact zh _ 114 (by decide) | exact zh _ 99 (by decide) | exact zh _ 112 (by decide) | exact zh _ 108 (by decide)) ?_;simp -implicitDefEqProofs only [go_sem])
    refine WantM.intro (xv ⟨text,p2,c2,a2⟩ 2 0 256 (by omega) r2.p ht) ?_
    have r3:=r2.num 2 0 256
    generalize hn3:yl ⟨text,p2,c2,a2⟩ 2 0 256=x at *
    obtain ⟨v3,t3,p3,c3,a3⟩:=x
    have ht3:t3=text:=r3.t
    subst t3
    simp -implicitDefEqProofs only [go_sem]
    repeat (refine Want.intro (by first | exact zh _ 115 (by decide) | exact zh _ 102 (by decide) | exact zh _ 110 (by decide) | exact zh _ 114 (by decide) | exact zh _ 99 (by decide) | exact zh _ 112 (by decide) | exact zh _ 108 (by decide)) ?_;simp -implicitDefEqProofs only [go_sem])
    refine WantM.intro (zlW ⟨text,p3,c3,a3⟩ r3.p ht) ?_
    have r4:=r3.dig
    generalize hn4:xE ⟨text,p3,c3,a3⟩=x at *
    obtain ⟨⟨va4,vb4,vc4,vd4⟩,t4,p4,c4,a4⟩:=x
    have ht4:t4=text:=r4.t
    subst t4
    simp -implicitDefEqProofs only [go_sem]
    repeat (refine Want.intro (by first | exact zh _ 115 (by decide) | exact zh _ 102 (by decide) | exact zh _ 110 (by decide) | exact zh _ 114 (by decide) | exact zh _ 99 (by decide) | exact zh _ 112 (by decide) | exact zh _ 108 (by decide)) ?_;simp -implicitDefEqProofs only [go_sem])
    have hM:zl text=xk text (⟨text,p4,c4,a4⟩,⟨bN text 0,v2,0,v3,⟨va4,vb4,vc4,vd4⟩,0,[],[]⟩):=by
     unfold zl
     rw [if_neg h',if_pos hin,hP]
     simp only [pS,pF,pZ,pR,pC,hn2,hn3,hn4]
     rfl
    refine zi (fun h=>?_) (fun h=>?_)
    ·have hp:p4<text.size:=by have:=of_decide_eq_true h;omega
     simp -implicitDefEqProofs only [go_sem,h]
     refine WantM.intro (zct ⟨text,p4,c4,a4⟩ 4 p4) ?_
     by_cases hc:c4=0
     ·simp -implicitDefEqProofs only [go_sem,xX,hM,xk,hc,hp,MMsg.zero]
      try rfl
     ·have hc2:(c4 != 0)=true:=by simpa using hc
      simp -implicitDefEqProofs only [go_sem,xX,hM,xk,hc,hc2,hp,MMsg.zero]
      try rfl
    ·have hp:¬p4<text.size:=by have:=of_decide_eq_false h;omega
     by_cases hc:c4=0
     ·subst hc
      simp -implicitDefEqProofs only [go_sem,h,hM,xk,hp,MMsg.zero]
      try rfl
     ·have hc2:(c4 != 0)=true:=by simpa using hc
      simp -implicitDefEqProofs only [go_sem,h,hM,xk,hc,hc2,hp,MMsg.zero]
      try rfl
   ·have hH:l5H (bN text 0:Int)=⟨#[102,110]⟩:=by rw [hk];rfl
    have hP:∀x,xo (bN text 0) x=pZ (pF x):=fun x=>by rw [hk];rfl
    have he:((⟨#[102,110]⟩:ByteArray).toList==(⟨#[]⟩:ByteArray).toList)=false:=by rw [tl_2,jz];rfl
    simp -implicitDefEqProofs only [go_sem,hH,he]
    refine WantM.intro (xv ⟨text,0,0,0⟩ 1 1 8 (by omega) (Nat.zero_le _) ht) ?_
    simp -implicitDefEqProofs only [go_sem,hf]
    repeat (refine Want.intro (by first | exact zh _ 115 (by decide) | exact zh _ 102 (by decide) | exact zh _ 110 (by decide) | exact zh _ 114 (by decide) | exact zh _ 99 (by decide) | exact zh _ 112 (by decide) | exact zh _ 108 (by decide)) ?_;simp -implicitDefEqProofs only [go_sem])
    refine WantM.intro (xv ⟨text,1,0,0⟩ 2 0 256 (by omega) r1.p ht) ?_
    have r2:=r1.num 2 0 256
    generalize hn2:yl ⟨text,1,0,0⟩ 2 0 256=x at *
    obtain ⟨v2,t2,p2,c2,a2⟩:=x
    have ht2:t2=text:=r2.t
    subst t2
    simp -implicitDefEqProofs only [go_sem]
    repeat (refine Want.intro (by first | exact zh _ 115 (by decide) | exact zh _ 102 (by decide) | exact zh _ 110 (by decide) | exact zh _ 114 (by decide) | exact zh _ 99 (by decide) | exact zh _ 112 (by decide) | exact zh _ 108 (by decide)) ?_;simp -implicitDefEqProofs only [go_sem])
    refine WantM.intro (xv ⟨text,p2,c2,a2⟩ 2 0 256 (by omega) r2.p ht) ?_
    have r3:=r2.num 2 0 256
    generalize hn3:yl ⟨text,p2,c2,a2⟩ 2 0 256=x at *
    obtain ⟨v3,t3,p3,c3,a3⟩:=x
    have ht3:t3=text:=r3.t
    subst t3
    simp -implicitDefEqProofs only [go_sem]
    repeat (refine Want.intro (by first | exact zh _ 115 (by decide) | exact zh _ 102 (by decide) | exact zh _ 110 (by decide) | exact zh _ 114 (by decide) | exact zh _ 99 (by decide) | exact zh _ 112 (by decide) | exact zh _ 108 (by decide)) ?_;simp -implicitDefEqProofs only [go_sem])
    have hM:zl text=xk text (⟨text,p3,c3,a3⟩,⟨bN text 0,0,v2,v3,⟨0,0,0,0⟩,0,[],[]⟩):=by
     unfold zl
     rw [if_neg h',if_pos hin,hP]
     simp only [pS,pF,pZ,pR,pC,hn2,hn3]
     rfl
    refine zi (fun h=>?_) (fun h=>?_)
    ·have hp:p3<text.size:=by have:=of_decide_eq_true h;omega
     simp -implicitDefEqProofs only [go_sem,h]
     refine WantM.intro (zct ⟨text,p3,c3,a3⟩ 4 p3) ?_
     by_cases hc:c3=0
     ·simp -implicitDefEqProofs only [go_sem,xX,hM,xk,hc,hp,MMsg.zero]
      try rfl
     ·have hc2:(c3 != 0)=true:=by simpa using hc
      simp -implicitDefEqProofs only [go_sem,xX,hM,xk,hc,hc2,hp,MMsg.zero]
      try rfl
    ·have hp:¬p3<text.size:=by have:=of_decide_eq_false h;omega
     by_cases hc:c3=0
     ·subst hc
      simp -implicitDefEqProofs only [go_sem,h,hM,xk,hp,MMsg.zero]
      try rfl
     ·have hc2:(c3 != 0)=true:=by simpa using hc
      simp -implicitDefEqProofs only [go_sem,h,hM,xk,hc,hc2,hp,MMsg.zero]
      try rfl
   ·have hH:l5H (bN text 0:Int)=⟨#[102,110,112]⟩:=by rw [hk];rfl
    have hP:∀x,xo (bN text 0) x=pP (pZ (pF x)):=fun x=>by rw [hk];rfl
    have he:((⟨#[102,110,112]⟩:ByteArray).toList==(⟨#[]⟩:ByteArray).toList)=false:=by rw [zpK,jz];rfl
    simp -implicitDefEqProofs only [go_sem,hH,he]
    refine WantM.intro (xv ⟨text,0,0,0⟩ 1 1 8 (by omega) (Nat.zero_le _) ht) ?_
    simp -implicitDefEqProofs only [go_sem,hf]
    repeat (refine Want.intro (by first | exact zh _ 115 (by decide) | exact zh _ 102 (by decide) | exact zh _ 110 (by decide) | exact zh _ 114 (by decide) | exact zh _ 99 (by decide) | exact zh _ 112 (by decide) | exact zh _ 108 (by decide)) ?_;simp -implicitDefEqProofs only [go_sem])
    refine WantM.intro (xv ⟨text,1,0,0⟩ 2 0 256 (by omega) r1.p ht) ?_
    have r2:=r1.num 2 0 256
    generalize hn2:yl ⟨text,1,0,0⟩ 2 0 256=x at *
    obtain ⟨v2,t2,p2,c2,a2⟩:=x
    have ht2:t2=text:=r2.t
    subst t2
    simp -implicitDefEqProofs only [go_sem]
    repeat (refine Want.intro (by first | exact zh _ 115 (by decide) | exact zh _ 102 (by decide) | exact zh _ 110 (by decide) | exact zh _ 114 (by decide) | exact zh _ 99 (by decide) | exact zh _ 112 (by decide) | exact zh _ 108 (by decide)) ?_;simp -implicitDefEqProofs only [go_sem])
    refine WantM.intro (xv ⟨text,p2,c2,a2⟩ 2 0 256 (by omega) r2.p ht) ?_
    have r3:=r2.num 2 0 256
    generalize hn3:yl ⟨text,p2,c2,a2⟩ 2 0 256=x at *
    obtain ⟨v3,t3,p3,c3,a3⟩:=x
    have ht3:t3=text:=r3.t
    subst t3
    simp -implicitDefEqProofs only [go_sem]
    repeat (refine Want.intro (by first | exact zh _ 115 (by decide) | exact zh _ 102 (by decide) | exact zh _ 110 (by decide) | exact zh _ 114 (by decide) | exact zh _ 99 (by decide) | exact zh _ 112 (by decide) | exact zh _ 108 (by decide)) ?_;simp -implicitDefEqProofs only [go_sem])
    refine WantM.intro (xv ⟨text,p3,c3,a3⟩ 1 0 16 (by omega) r3.p ht) ?_
    have r4:=r3.num 1 0 16
    have hv4:=jb ⟨text,p3,c3,a3⟩ 1 16 (by omega)
    generalize hn4:yl ⟨text,p3,c3,a3⟩ 1 0 16=x at *
    obtain ⟨v4,t4,p4,c4,a4⟩:=x
    have ht4:t4=text:=r4.t
    subst t4
    simp only at hv4
    simp -implicitDefEqProofs only [go_sem]
    refine qO [(10005,4)] (fun m z=>∃i:Nat,i≤v4.toNat∧m=v4.toNat - i∧z=⟨116,[(0,vS text),(2,.ptr 2 0 [] 11 0 0),(3,.ptr 3 0 [] 2 0 0),(4,.ptr 4 0 [] 4 0 0),(5,.ptr 5 0 [] 11 0 0),(6,vS ⟨#[102,110,112]⟩),(7,vI v4),(8,vI (i:Int))],[(2,0,one ⟨11,[[vI 0,vI 0,vI 0,vI 0,vU 0,vU 0,vU 0,vU 0,vI 0,.nilS,.nilS]],0,false⟩),(3,0,one ⟨2,[[vI 0,vI 0]],0,false⟩),(4,0,one ⟨4,[(yI i ⟨text,p4,c4,a4⟩).2.cs],0,false⟩),(5,0,one ⟨11,[[vI (bN text 0:Int),vI 0,vI v2,vI v3,vU 0,vU 0,vU 0,vU 0,vI 0,.blk 10005 0 [] 4 0 (yI i ⟨text,p4,c4,a4⟩).1.length,.nilS]],0,false⟩),(10005,0,one ⟨4,(yI i ⟨text,p4,c4,a4⟩).1.map MDig.cs,2,false⟩)],1⟩) v4.toNat ?_ ?_
    ·simp -implicitDefEqProofs only [go_sem]
     exact ⟨0,Nat.zero_le _,rfl,rfl⟩
    ·rintro m z ⟨i,hi,rfl,rfl⟩
     have hlen:=zbH i ⟨text,p4,c4,a4⟩
     have hri:=r4.digs i
     rcases Nat.lt_or_ge i v4.toNat with hlt | hge
     ·have hlt':(i:Int)<v4:=by omega
      have w4:IntKind.i64.wrap ((i:Int)+1)=((i+1:Nat):Int):=by rw [wrS (by omega)];omega
      have ha:∀x,_:=fun x=>zH (E:=MDig.cs) (l:=(yI i ⟨text,p4,c4,a4⟩).1) (xs:=[x]) (b:=32) (n:=i+1) (by rw [hlen];simp) (by omega) (by omega)
      simp -implicitDefEqProofs only [go_sem,hlt']
      refine WantM.intro (zlW (yI i ⟨text,p4,c4,a4⟩).2 (by rw [hri.t];exact hri.p) (by rw [hri.t];exact ht)) ?_
      simp -implicitDefEqProofs only [go_sem,ha,w4]
      exact ⟨_,by omega,i+1,hlt,rfl,by simp [yI];rfl⟩
     ·have hi:i=v4.toNat:=by omega
      have hlt':¬(i:Int)<v4:=by omega
      simp -implicitDefEqProofs only [go_sem,hlt']
      subst hi
      generalize hn5:yI v4.toNat ⟨text,p4,c4,a4⟩=x at *
      obtain ⟨ds,t5,p5,c5,a5⟩:=x
      have ht5:t5=text:=hri.t
      subst t5
      simp -implicitDefEqProofs only [go_sem]
      repeat (refine Want.intro (by first | exact zh _ 115 (by decide) | exact zh _ 102 (by decide) | exact zh _ 110 (by decide) | exact zh _ 114 (by decide) | exact zh _ 99 (by decide) | exact zh _ 112 (by decide) | exact zh _ 108 (by decide)) ?_;simp -implicitDefEqProofs only [go_sem])
      have hM:zl text=xk text (⟨text,p5,c5,a5⟩,⟨bN text 0,0,v2,v3,⟨0,0,0,0⟩,0,ds,[]⟩):=by
       unfold zl
       rw [if_neg h',if_pos hin,hP]
       simp only [pS,pF,pZ,pR,pC,pP,pL,hn2,hn3,hn4,hn5]
       rfl
      refine zi (fun h=>?_) (fun h=>?_)
      ·have hp:p5<text.size:=by have:=of_decide_eq_true h;omega
       simp -implicitDefEqProofs only [go_sem,h]
       refine WantM.intro (zct ⟨text,p5,c5,a5⟩ 4 p5) ?_
       by_cases hc:c5=0
       ·simp -implicitDefEqProofs only [go_sem,xX,hM,xk,hc,hp,MMsg.zero]
        try rfl
       ·have hc2:(c5 != 0)=true:=by simpa using hc
        simp -implicitDefEqProofs only [go_sem,xX,hM,xk,hc,hc2,hp,MMsg.zero]
        try rfl
      ·have hp:¬p5<text.size:=by have:=of_decide_eq_false h;omega
       by_cases hc:c5=0
       ·subst hc
        simp -implicitDefEqProofs only [go_sem,h,hM,xk,hp,MMsg.zero]
        try rfl
       ·have hc2:(c5 != 0)=true:=by simpa using hc
        simp -implicitDefEqProofs only [go_sem,h,hM,xk,hc,hc2,hp,MMsg.zero]
        try rfl
   ·have hH:l5H (bN text 0:Int)=⟨#[115,110,114]⟩:=by rw [hk];rfl
    have hP:∀x,xo (bN text 0) x=pR (pZ (pS x)):=fun x=>by rw [hk];rfl
    have he:((⟨#[115,110,114]⟩:ByteArray).toList==(⟨#[]⟩:ByteArray).toList)=false:=by rw [zpK,jz];rfl
    simp -implicitDefEqProofs only [go_sem,hH,he]
    refine WantM.intro (xv ⟨text,0,0,0⟩ 1 1 8 (by omega) (Nat.zero_le _) ht) ?_
    simp -implicitDefEqProofs only [go_sem,hf]
    repeat (refine Want.intro (by first | exact zh _ 115 (by decide) | exact zh _ 102 (by decide) | exact zh _ 110 (by decide) | exact zh _ 114 (by decide) | exact zh _ 99 (by decide) | exact zh _ 112 (by decide) | exact zh _ 108 (by decide)) ?_;simp -implicitDefEqProofs only [go_sem])
    refine WantM.intro (xv ⟨text,1,0,0⟩ 3 1 1000000 (by omega) r1.p ht) ?_
    have r2:=r1.num 3 1 1000000
    generalize hn2:yl ⟨text,1,0,0⟩ 3 1 1000000=x at *
    obtain ⟨v2,t2,p2,c2,a2⟩:=x
    have ht2:t2=text:=r2.t
    subst t2
    simp -implicitDefEqProofs only [go_sem]
    repeat (refine Want.intro (by first | exact zh _ 115 (by decide) | exact zh _ 102 (by decide) | exact zh _ 110 (by decide) | exact zh _ 114 (by decide) | exact zh _ 99 (by decide) | exact zh _ 112 (by decide) | exact zh _ 108 (by decide)) ?_;simp -implicitDefEqProofs only [go_sem])
    refine WantM.intro (xv ⟨text,p2,c2,a2⟩ 2 0 256 (by omega) r2.p ht) ?_
    have r3:=r2.num 2 0 256
    generalize hn3:yl ⟨text,p2,c2,a2⟩ 2 0 256=x at *
    obtain ⟨v3,t3,p3,c3,a3⟩:=x
    have ht3:t3=text:=r3.t
    subst t3
    simp -implicitDefEqProofs only [go_sem]
    repeat (refine Want.intro (by first | exact zh _ 115 (by decide) | exact zh _ 102 (by decide) | exact zh _ 110 (by decide) | exact zh _ 114 (by decide) | exact zh _ 99 (by decide) | exact zh _ 112 (by decide) | exact zh _ 108 (by decide)) ?_;simp -implicitDefEqProofs only [go_sem])
    refine WantM.intro (zlW ⟨text,p3,c3,a3⟩ r3.p ht) ?_
    have r4:=r3.dig
    generalize hn4:xE ⟨text,p3,c3,a3⟩=x at *
    obtain ⟨⟨va4,vb4,vc4,vd4⟩,t4,p4,c4,a4⟩:=x
    have ht4:t4=text:=r4.t
    subst t4
    simp -implicitDefEqProofs only [go_sem]
    repeat (refine Want.intro (by first | exact zh _ 115 (by decide) | exact zh _ 102 (by decide) | exact zh _ 110 (by decide) | exact zh _ 114 (by decide) | exact zh _ 99 (by decide) | exact zh _ 112 (by decide) | exact zh _ 108 (by decide)) ?_;simp -implicitDefEqProofs only [go_sem])
    have hM:zl text=xk text (⟨text,p4,c4,a4⟩,⟨bN text 0,v2,0,v3,⟨va4,vb4,vc4,vd4⟩,0,[],[]⟩):=by
     unfold zl
     rw [if_neg h',if_pos hin,hP]
     simp only [pS,pF,pZ,pR,pC,hn2,hn3,hn4]
     rfl
    refine zi (fun h=>?_) (fun h=>?_)
    ·have hp:p4<text.size:=by have:=of_decide_eq_true h;omega
     simp -implicitDefEqProofs only [go_sem,h]
     refine WantM.intro (zct ⟨text,p4,c4,a4⟩ 4 p4) ?_
     by_cases hc:c4=0
     ·simp -implicitDefEqProofs only [go_sem,xX,hM,xk,hc,hp,MMsg.zero]
      try rfl
     ·have hc2:(c4 != 0)=true:=by simpa using hc
      simp -implicitDefEqProofs only [go_sem,xX,hM,xk,hc,hc2,hp,MMsg.zero]
      try rfl
    ·have hp:¬p4<text.size:=by have:=of_decide_eq_false h;omega
     by_cases hc:c4=0
     ·subst hc
      simp -implicitDefEqProofs only [go_sem,h,hM,xk,hp,MMsg.zero]
      try rfl
     ·have hc2:(c4 != 0)=true:=by simpa using hc
      simp -implicitDefEqProofs only [go_sem,h,hM,xk,hc,hc2,hp,MMsg.zero]
      try rfl
   ·have hH:l5H (bN text 0:Int)=⟨#[102,99]⟩:=by rw [hk];rfl
    have hP:∀x,xo (bN text 0) x=pC (pF x):=fun x=>by rw [hk];rfl
    have he:((⟨#[102,99]⟩:ByteArray).toList==(⟨#[]⟩:ByteArray).toList)=false:=by rw [tl_2,jz];rfl
    simp -implicitDefEqProofs only [go_sem,hH,he]
    refine WantM.intro (xv ⟨text,0,0,0⟩ 1 1 8 (by omega) (Nat.zero_le _) ht) ?_
    simp -implicitDefEqProofs only [go_sem,hf]
    repeat (refine Want.intro (by first | exact zh _ 115 (by decide) | exact zh _ 102 (by decide) | exact zh _ 110 (by decide) | exact zh _ 114 (by decide) | exact zh _ 99 (by decide) | exact zh _ 112 (by decide) | exact zh _ 108 (by decide)) ?_;simp -implicitDefEqProofs only [go_sem])
    refine WantM.intro (xv ⟨text,1,0,0⟩ 2 0 256 (by omega) r1.p ht) ?_
    have r2:=r1.num 2 0 256
    generalize hn2:yl ⟨text,1,0,0⟩ 2 0 256=x at *
    obtain ⟨v2,t2,p2,c2,a2⟩:=x
    have ht2:t2=text:=r2.t
    subst t2
    simp -implicitDefEqProofs only [go_sem]
    repeat (refine Want.intro (by first | exact zh _ 115 (by decide) | exact zh _ 102 (by decide) | exact zh _ 110 (by decide) | exact zh _ 114 (by decide) | exact zh _ 99 (by decide) | exact zh _ 112 (by decide) | exact zh _ 108 (by decide)) ?_;simp -implicitDefEqProofs only [go_sem])
    refine WantM.intro (xv ⟨text,p2,c2,a2⟩ 1 1 8 (by omega) r2.p ht) ?_
    have r3:=r2.num 1 1 8
    generalize hn3:yl ⟨text,p2,c2,a2⟩ 1 1 8=x at *
    obtain ⟨v3,t3,p3,c3,a3⟩:=x
    have ht3:t3=text:=r3.t
    subst t3
    simp -implicitDefEqProofs only [go_sem]
    repeat (refine Want.intro (by first | exact zh _ 115 (by decide) | exact zh _ 102 (by decide) | exact zh _ 110 (by decide) | exact zh _ 114 (by decide) | exact zh _ 99 (by decide) | exact zh _ 112 (by decide) | exact zh _ 108 (by decide)) ?_;simp -implicitDefEqProofs only [go_sem])
    have hM:zl text=xk text (⟨text,p3,c3,a3⟩,⟨bN text 0,0,v2,0,⟨0,0,0,0⟩,v3,[],[]⟩):=by
     unfold zl
     rw [if_neg h',if_pos hin,hP]
     simp only [pS,pF,pZ,pR,pC,hn2,hn3]
     rfl
    refine zi (fun h=>?_) (fun h=>?_)
    ·have hp:p3<text.size:=by have:=of_decide_eq_true h;omega
     simp -implicitDefEqProofs only [go_sem,h]
     refine WantM.intro (zct ⟨text,p3,c3,a3⟩ 4 p3) ?_
     by_cases hc:c3=0
     ·simp -implicitDefEqProofs only [go_sem,xX,hM,xk,hc,hp,MMsg.zero]
      try rfl
     ·have hc2:(c3 != 0)=true:=by simpa using hc
      simp -implicitDefEqProofs only [go_sem,xX,hM,xk,hc,hc2,hp,MMsg.zero]
      try rfl
    ·have hp:¬p3<text.size:=by have:=of_decide_eq_false h;omega
     by_cases hc:c3=0
     ·subst hc
      simp -implicitDefEqProofs only [go_sem,h,hM,xk,hp,MMsg.zero]
      try rfl
     ·have hc2:(c3 != 0)=true:=by simpa using hc
      simp -implicitDefEqProofs only [go_sem,h,hM,xk,hc,hc2,hp,MMsg.zero]
      try rfl
   ·have hH:l5H (bN text 0:Int)=⟨#[102,108]⟩:=by rw [hk];rfl
    have hP:∀x,xo (bN text 0) x=pL (pF x):=fun x=>by rw [hk];rfl
    have he:((⟨#[102,108]⟩:ByteArray).toList==(⟨#[]⟩:ByteArray).toList)=false:=by rw [tl_2,jz];rfl
    simp -implicitDefEqProofs only [go_sem,hH,he]
    refine WantM.intro (xv ⟨text,0,0,0⟩ 1 1 8 (by omega) (Nat.zero_le _) ht) ?_
    simp -implicitDefEqProofs only [go_sem,hf]
    repeat (refine Want.intro (by first | exact zh _ 115 (by decide) | exact zh _ 102 (by decide) | exact zh _ 110 (by decide) | exact zh _ 114 (by decide) | exact zh _ 99 (by decide) | exact zh _ 112 (by decide) | exact zh _ 108 (by decide)) ?_;simp -implicitDefEqProofs only [go_sem])
    refine WantM.intro (xv ⟨text,1,0,0⟩ 2 0 256 (by omega) r1.p ht) ?_
    have r2:=r1.num 2 0 256
    generalize hn2:yl ⟨text,1,0,0⟩ 2 0 256=x at *
    obtain ⟨v2,t2,p2,c2,a2⟩:=x
    have ht2:t2=text:=r2.t
    subst t2
    simp -implicitDefEqProofs only [go_sem]
    repeat (refine Want.intro (by first | exact zh _ 115 (by decide) | exact zh _ 102 (by decide) | exact zh _ 110 (by decide) | exact zh _ 114 (by decide) | exact zh _ 99 (by decide) | exact zh _ 112 (by decide) | exact zh _ 108 (by decide)) ?_;simp -implicitDefEqProofs only [go_sem])
    refine WantM.intro (xv ⟨text,p2,c2,a2⟩ 1 0 8 (by omega) r2.p ht) ?_
    have r3:=r2.num 1 0 8
    have hv3:=jb ⟨text,p2,c2,a2⟩ 1 8 (by omega)
    generalize hn3:yl ⟨text,p2,c2,a2⟩ 1 0 8=x at *
    obtain ⟨v3,t3,p3,c3,a3⟩:=x
    have ht3:t3=text:=r3.t
    subst t3
    simp only at hv3
    simp -implicitDefEqProofs only [go_sem]
    refine qO [(11005,1)] (fun m z=>∃i:Nat,i≤v3.toNat∧m=v3.toNat - i∧z=⟨116,[(0,vS text),(2,.ptr 2 0 [] 11 0 0),(3,.ptr 3 0 [] 2 0 0),(4,.ptr 4 0 [] 4 0 0),(5,.ptr 5 0 [] 11 0 0),(9,vI v3),(10,vI (i:Int))],[(2,0,one ⟨11,[[vI 0,vI 0,vI 0,vI 0,vU 0,vU 0,vU 0,vU 0,vI 0,.nilS,.nilS]],0,false⟩),(3,0,one ⟨2,[[vI 0,vI 0]],0,false⟩),(4,0,one ⟨4,[(zK i ⟨text,p3,c3,a3⟩).2.cs],0,false⟩),(5,0,one ⟨11,[[vI (bN text 0:Int),vI 0,vI v2,vI 0,vU 0,vU 0,vU 0,vU 0,vI 0,.nilS,.blk 10005 0 [] 1 0 (zK i ⟨text,p3,c3,a3⟩).1.length]],0,false⟩),(10005,0,one ⟨1,(zK i ⟨text,p3,c3,a3⟩).1.map zs,2,false⟩)],1⟩) v3.toNat ?_ ?_
    ·simp -implicitDefEqProofs only [go_sem]
     exact ⟨0,Nat.zero_le _,rfl,rfl⟩
    ·rintro m z ⟨i,hi,rfl,rfl⟩
     have hlen:=zab i ⟨text,p3,c3,a3⟩
     have hri:=r3.leafs i
     rcases Nat.lt_or_ge i v3.toNat with hlt | hge
     ·have hlt':(i:Int)<v3:=by omega
      have w4:IntKind.i64.wrap ((i:Int)+1)=((i+1:Nat):Int):=by rw [wrS (by omega)];omega
      have ha:∀x,_:=fun x=>zH (E:=zs) (l:=(zK i ⟨text,p3,c3,a3⟩).1) (xs:=[x]) (b:=16) (n:=i+1) (by rw [hlen];simp) (by omega) (by omega)
      simp -implicitDefEqProofs only [go_sem,hlt']
      refine WantM.intro (xv (zK i ⟨text,p3,c3,a3⟩).2 1 0 40 (by omega) (by rw [hri.t];exact hri.p) (by rw [hri.t];exact ht)) ?_
      have hr2:=hri.num 1 0 40
      have hbd:=jb (zK i ⟨text,p3,c3,a3⟩).2 1 40 (by omega)
      have hcast:(yl (zK i ⟨text,p3,c3,a3⟩).2 1 0 40).1=((yl (zK i ⟨text,p3,c3,a3⟩).2 1 0 40).1.toNat:Int):=(Int.toNat_of_nonneg hbd.1).symm
      simp -implicitDefEqProofs only [go_sem]
      rw [hcast]
      refine WantM.intro (zol (yl (zK i ⟨text,p3,c3,a3⟩).2 1 0 40).2 (yl (zK i ⟨text,p3,c3,a3⟩).2 1 0 40).1.toNat (by omega) (by rw [hr2.t];exact hr2.p) (by rw [hr2.t];exact ht)) ?_
      simp -implicitDefEqProofs only [go_sem,ha,w4]
      exact ⟨_,by omega,i+1,hlt,rfl,by simp [zK,zaO,zs]⟩
     ·have hi:i=v3.toNat:=by omega
      have hlt':¬(i:Int)<v3:=by omega
      simp -implicitDefEqProofs only [go_sem,hlt']
      subst hi
      generalize hn4:zK v3.toNat ⟨text,p3,c3,a3⟩=x at *
      obtain ⟨ds,t4,p4,c4,a4⟩:=x
      have ht4:t4=text:=hri.t
      subst t4
      simp -implicitDefEqProofs only [go_sem]
      repeat (refine Want.intro (by first | exact zh _ 115 (by decide) | exact zh _ 102 (by decide) | exact zh _ 110 (by decide) | exact zh _ 114 (by decide) | exact zh _ 99 (by decide) | exact zh _ 112 (by decide) | exact zh _ 108 (by decide)) ?_;simp -implicitDefEqProofs only [go_sem])
      have hM:zl text=xk text (⟨text,p4,c4,a4⟩,⟨bN text 0,0,v2,0,⟨0,0,0,0⟩,0,[],ds⟩):=by
       unfold zl
       rw [if_neg h',if_pos hin,hP]
       simp only [pS,pF,pZ,pR,pC,pP,pL,hn2,hn3,hn4]
       rfl
      refine zi (fun h=>?_) (fun h=>?_)
      ·have hp:p4<text.size:=by have:=of_decide_eq_true h;omega
       simp -implicitDefEqProofs only [go_sem,h]
       refine WantM.intro (zct ⟨text,p4,c4,a4⟩ 4 p4) ?_
       by_cases hc:c4=0
       ·simp -implicitDefEqProofs only [go_sem,xX,hM,xk,hc,hp,MMsg.zero]
        try rfl
       ·have hc2:(c4 != 0)=true:=by simpa using hc
        simp -implicitDefEqProofs only [go_sem,xX,hM,xk,hc,hc2,hp,MMsg.zero]
        try rfl
      ·have hp:¬p4<text.size:=by have:=of_decide_eq_false h;omega
       by_cases hc:c4=0
       ·subst hc
        simp -implicitDefEqProofs only [go_sem,h,hM,xk,hp,MMsg.zero]
        try rfl
       ·have hc2:(c4 != 0)=true:=by simpa using hc
        simp -implicitDefEqProofs only [go_sem,h,hM,xk,hc,hc2,hp,MMsg.zero]
        try rfl
  ·have hH:l5H (bN text 0:Int)=⟨#[]⟩:=by rw [l5H,if_neg (by omega),if_neg (by omega),if_neg (by omega),if_neg (by omega),if_neg (by omega),if_neg (by omega)]
   have he:((⟨#[]⟩:ByteArray).toList==(⟨#[]⟩:ByteArray).toList)=true:=by rw [jz];rfl
   simp -implicitDefEqProofs only [go_sem,hH,he,zb,zl,h',hin,MMsg.zero]
   rfl
end Go.Proofs.YtpjpkmhaffmbmaaGreat.E
end
section
namespace Go.Proofs.YtpjpkmhaffmbmaaGreat.E
open Go Go.RowKit
set_option maxHeartbeats 4000000
set_option maxRecDepth 10000
set_option linter.unusedSimpArgs false
set_option linter.unusedVariables false
set_option linter.unusedSectionVars false
def dcD5:Dec:=⟨[(100,.cm [true,false]),(102,.cm [true,false,false,false]),(103,.cm [true])],[9,10,11],[22,30,37,38,39,40,49,56,76,80,87,141,143,159,237,250,259],false⟩
theorem zmS (l:List MDig) (hl:l.length * 32≤140737488355328):CallR Tryz.prog 104 [.ro 4 (l.map MDig.cs)] (.blk 0 0 [] 4 0 l.length) [([],⟨4,l.map MDig.cs,2,false⟩)]:=by
 refine zj dcD5 false Tryz.f104 ?_
 conv=>enter [1];reduce
 refine jvR Tryz.f104 14 [.tmp 2] (by kernel_rfl) (by decide +kernel) rfl ?_
 simp -implicitDefEqProofs only [go_sem]
 refine zi (fun h=>?_) (fun h=>?_)
 ·have:l=[]:=by simpa using h
  subst this
  simp -implicitDefEqProofs only [go_sem]
 ·have hm:=zbs hl (by omega)
  have hmk:((32:Nat):Int) * (l.length:Int)≤281474976710656∧(l.length:Int)≤9223372036854775807:=by unfold maxLen at hm;omega
  simp -implicitDefEqProofs only [go_sem,h,hmk,List.length_replicate]
theorem zrJ (l:List ByteArray) (hl:l.length * 16≤140737488355328):CallR Tryz.prog 105 [.ro 1 (l.map zs)] (.blk 0 0 [] 1 0 l.length) [([],⟨1,l.map zs,2,false⟩)]:=by
 refine zj dcD5 false Tryz.f105 ?_
 conv=>enter [1];reduce
 refine jvR Tryz.f105 14 [.tmp 2] (by kernel_rfl) (by decide +kernel) rfl ?_
 simp -implicitDefEqProofs only [go_sem]
 refine zi (fun h=>?_) (fun h=>?_)
 ·have:l=[]:=by simpa using h
  subst this
  simp -implicitDefEqProofs only [go_sem]
 ·have hm:=zbs hl (by omega)
  have hmk:((16:Nat):Int) * (l.length:Int)≤281474976710656∧(l.length:Int)≤9223372036854775807:=by unfold maxLen at hm;omega
  simp -implicitDefEqProofs only [go_sem,h,hmk,List.length_replicate]
def pP2 (x:MRd × MMsg):MRd × MMsg:=((yI (yl x.1 1 0 16).1.toNat (yl x.1 1 0 16).2).2,{x.2 with proof:=x.2.proof++(yI (yl x.1 1 0 16).1.toNat (yl x.1 1 0 16).2).1})
def pL2 (x:MRd × MMsg):MRd × MMsg:=((zK (yl x.1 1 0 8).1.toNat (yl x.1 1 0 8).2).2,{x.2 with leaves:=x.2.leaves++(zK (yl x.1 1 0 8).1.toNat (yl x.1 1 0 8).2).1})
def pOf (c:Nat) (x:MRd × MMsg):MRd × MMsg:=match c with
 | 115=>pS x
 | 102=>pF x
 | 122=>pZ x
 | 114=>pR x
 | 99=>pC x
 | 112=>pP2 x
 | 108=>pL2 x
 | _=>x
def zoP (l:List UInt8) (x:MRd × MMsg):MRd × MMsg:=l.foldl (fun x b=>pOf b.toNat x) x
theorem zje (l:List UInt8) (b:UInt8) (x:MRd × MMsg):zoP (l++[b]) x=pOf b.toNat (zoP l x):=by
 unfold zoP
 rw [List.foldl_append]
 rfl
theorem letters {k:Nat} (hk:1≤k∧k≤8) {pos:Nat} (h:pos<(l5P (k:Int)).size):pos≤2∧∃c,Utf8.decode (l5P (k:Int)) pos=(c,1)∧(l5P (k:Int)).data.toList.take (pos+1)=(l5P (k:Int)).data.toList.take pos++[UInt8.ofNat c]∧(UInt8.ofNat c).toNat=c∧
  (c=115∨c=102∨c=122∨c=114∨c=99∨c=112∨c=108):=by
 have hk':k=1∨k=2∨k=3∨k=4∨k=5∨k=6∨k=7∨k=8:=by omega
 have hs:(l5P (k:Int)).size≤3:=by rcases hk' with rfl | rfl | rfl | rfl | rfl | rfl | rfl | rfl<;>decide
 have hp:pos=0∨pos=1∨pos=2:=by omega
 refine ⟨by omega,?_⟩
 rcases hk' with rfl | rfl | rfl | rfl | rfl | rfl | rfl | rfl<;>rcases hp with rfl | rfl | rfl<;>
  first
  | exact absurd h (by decide)
  | exact ⟨115,by decide,by decide,by decide,by decide⟩
  | exact ⟨102,by decide,by decide,by decide,by decide⟩
  | exact ⟨122,by decide,by decide,by decide,by decide⟩
  | exact ⟨114,by decide,by decide,by decide,by decide⟩
  | exact ⟨99,by decide,by decide,by decide,by decide⟩
  | exact ⟨112,by decide,by decide,by decide,by decide⟩
  | exact ⟨108,by decide,by decide,by decide,by decide⟩
theorem zjc {k:Nat} (hk:1≤k∧k≤8) (r:MRd) (z:Int):xo k (r,{MMsg.zero with kind:=z})=zoP ((l5P (k:Int)).data.toList.take (l5P (k:Int)).size) (r,{MMsg.zero with kind:=z}):=by
 have hk':k=1∨k=2∨k=3∨k=4∨k=5∨k=6∨k=7∨k=8:=by omega
 rcases hk' with rfl | rfl | rfl | rfl | rfl | rfl | rfl | rfl<;>rfl
def zpC:List AV:=[vI 0,vI 0,vI 0,vI 0,vU 0,vU 0,vU 0,vU 0,vI 0,.nilS,.nilS]
def mRow (m:MMsg):List AV:=[vI m.kind,vI m.session,vI m.from_,vI m.size,vU m.root.a,vU m.root.b,vU m.root.c,vU m.root.d,vI m.count,.blk 10006 0 [] 4 0 m.proof.length,.blk 20006 0 [] 1 0 m.leaves.length]
def mSig (x:MRd × MMsg):Sig:=[(2,0,one ⟨11,[zpC],0,false⟩),(3,0,one ⟨2,[[vI 0,vI 0]],0,false⟩),(4,0,one ⟨4,[x.1.cs],0,false⟩),(6,0,one ⟨11,[mRow x.2],0,false⟩),(10006,0,one ⟨4,x.2.proof.map MDig.cs,2,false⟩),(20006,0,one ⟨1,x.2.leaves.map zs,2,false⟩)]
attribute [go_sem] zpC mRow mSig
structure InvX (text:ByteArray) (pos:Nat) (x:MRd × MMsg):Prop where
 rd:RdOK text x.1
 pl:x.2.proof.length≤16 * pos
 ll:x.2.leaves.length≤8 * pos
def MMsg.avM (m:MMsg):AV:=.agg [vI m.kind,vI m.session,vI m.from_,vI m.size,vU m.root.a,vU m.root.b,vU m.root.c,vU m.root.d,vI m.count,.blk 0 0 [] 4 0 m.proof.length,.blk 1 0 [] 1 0 m.leaves.length]
def MMsg.out (m:MMsg):Sig:=[(0,0,one ⟨4,m.proof.map MDig.cs,2,false⟩),(1,0,one ⟨1,m.leaves.map zs,2,false⟩)]
attribute [go_sem] MMsg.avM MMsg.out
theorem c43_c (text:ByteArray) (ht:text.size≤1000000000000):zS Tryz.prog 43 [] [vS text] (.tup [(zl text).1.avM,.agg [vI (zl text).2.1,vI (zl text).2.2]]) (zl text).1.out:=by
 refine zj dcD5 false Tryz.f43 ?_
 conv=>enter [1];reduce
 refine jvM Tryz.f43 157 [.cell 2 58,.cell 3 60] (by kernel_rfl) (by decide +kernel) rfl ?_
 simp -implicitDefEqProofs only [go_sem]
 refine WantM.intro (zhb ⟨text,0,0,0⟩ 1 (by omega) (Nat.zero_le _) ht) ?_
 rcases Nat.eq_zero_or_pos text.size with h0 | h0
 ·have hr:xJ ⟨text,0,0,0⟩ 1=(⟨#[]⟩,⟨text,0,2,(text.size:Int)⟩):=by
   unfold xJ
   rw [if_pos rfl,if_pos (show 0+1>text.size by omega)]
  have hM:zl text=(.zero,2,0):=by unfold zl;rw [if_pos h0]
  rw [hM]
  simp -implicitDefEqProofs only [go_sem,hr,h0,MMsg.zero]
  first | rfl | exact ⟨rfl,rfl⟩
 ·have hr:xJ ⟨text,0,0,0⟩ 1=(text.extract 0 1,⟨text,1,0,0⟩):=by
   unfold xJ
   rw [if_pos rfl,if_neg (show ¬0+1>text.size by omega)]
  have hs:(text.extract 0 1).size=1:=by rw [ByteArray.size_extract];omega
  have hg:=qF (s:=text.extract 0 1) (i:=0) (by omega)
  rw [zmV h0] at hg
  have hb:=zgj text 0
  have w1:IntKind.i64.wrap (bN text 0:Int)=(bN text 0:Int):=wrS (by omega)
  have h':¬text.size=0:=by omega
  simp -implicitDefEqProofs only [go_sem,hr,hg,w1]
  refine Want.intro (qq _ _ _) ?_
  simp -implicitDefEqProofs only [go_sem]
  refine zi (fun h=>?_) (fun h=>?_)
  ·have hin:¬(1≤bN text 0∧bN text 0≤8):=fun hh=>by
    have h3:(1:Int)≤(bN text 0:Int)∧(bN text 0:Int)≤8:=by omega
    simp [mIn,h3.1,h3.2] at h
   have hM:zl text=(.zero,1,0):=by unfold zl;rw [if_neg h',if_neg hin]
   rw [hM]
   simp -implicitDefEqProofs only [go_sem,h,MMsg.zero]
   first | rfl | exact ⟨rfl,rfl⟩
  ·have hin:1≤bN text 0∧bN text 0≤8:=by
    have:(1:Int)≤(bN text 0:Int)∧(bN text 0:Int)≤8:=by simpa [mIn] using h
    omega
   simp -implicitDefEqProofs only [go_sem,h,hg,w1]
   refine Want.intro (zmU (bN text 0)) ?_
   simp -implicitDefEqProofs only [go_sem]
   refine zef (l5P (bN text 0:Int)) [0,2,3,4,6,51] [(10006,4),(11006,1)] (fun r pos z=>pos≤(l5P (bN text 0:Int)).size∧∃X,X=zoP ((l5P (bN text 0:Int)).data.toList.take pos) (⟨text,1,0,0⟩,{MMsg.zero with kind:=bN text 0})∧InvX text pos X∧z=⟨157,[(0,vS text),(2,.ptr 2 0 [] 11 0 0),(3,.ptr 3 0 [] 2 0 0),(4,.ptr 4 0 [] 4 0 0),(6,.ptr 6 0 [] 11 0 0),(51,.it r)],mSig X,1⟩) ?_ ?_ ?_ ?_ ?_ ?_
   ·rfl
   ·omega
   ·intro r
    simp -implicitDefEqProofs only [go_sem]
    exact ⟨Nat.zero_le _,_,rfl,⟨⟨rfl,by show 1≤text.size;omega⟩,Nat.zero_le _,Nat.zero_le _⟩,rfl⟩
   ·rintro r pos z ⟨-,X,-,-,rfl⟩
    exact ⟨rfl,rfl⟩
   ·rintro r pos z ⟨hle,X,hX,hinv,rfl⟩ hlt
    obtain ⟨hp2,c,hd,htk,huc,hc⟩:=letters hin hlt
    have hX1:pOf c X=zoP ((l5P (bN text 0:Int)).data.toList.take (pos+1)) (⟨text,1,0,0⟩,{MMsg.zero with kind:=bN text 0}):=by rw [htk,zje,huc,←hX]
    refine ⟨c,hd,?_⟩
    clear hX
    have hrp:X.1.p≤X.1.t.size:=by rw [hinv.rd.t];exact hinv.rd.p
    have hrt:X.1.t.size≤1000000000000:=by rw [hinv.rd.t];exact ht
    have hpl:=hinv.pl
    have hll:=hinv.ll
    rcases hc with rfl | rfl | rfl | rfl | rfl | rfl | rfl
    ·have hcc:((115:Nat):Int)=115:=rfl
     simp -implicitDefEqProofs only [go_sem,hcc]
     refine WantM.intro (zb6 X.1 3 1 1000000 (by omega) hrp hrt) ?_
     simp -implicitDefEqProofs only [go_sem]
     exact ⟨hlt,pS X,hX1,⟨hinv.rd.num _ _ _,by show X.2.proof.length≤_;omega,by show X.2.leaves.length≤_;omega⟩,rfl⟩
    ·have hcc:((102:Nat):Int)=102:=rfl
     simp -implicitDefEqProofs only [go_sem,hcc]
     refine WantM.intro (zb6 X.1 2 0 256 (by omega) hrp hrt) ?_
     simp -implicitDefEqProofs only [go_sem]
     exact ⟨hlt,pF X,hX1,⟨hinv.rd.num _ _ _,by show X.2.proof.length≤_;omega,by show X.2.leaves.length≤_;omega⟩,rfl⟩
    ·have hcc:((122:Nat):Int)=122:=rfl
     simp -implicitDefEqProofs only [go_sem,hcc]
     refine WantM.intro (zb6 X.1 2 0 256 (by omega) hrp hrt) ?_
     simp -implicitDefEqProofs only [go_sem]
     exact ⟨hlt,pZ X,hX1,⟨hinv.rd.num _ _ _,by show X.2.proof.length≤_;omega,by show X.2.leaves.length≤_;omega⟩,rfl⟩
    ·have hcc:((114:Nat):Int)=114:=rfl
     simp -implicitDefEqProofs only [go_sem,hcc]
     refine WantM.intro (zmT X.1 hrp hrt) ?_
     simp -implicitDefEqProofs only [go_sem]
     exact ⟨hlt,pR X,hX1,⟨hinv.rd.dig,by show X.2.proof.length≤_;omega,by show X.2.leaves.length≤_;omega⟩,rfl⟩
    ·have hcc:((99:Nat):Int)=99:=rfl
     simp -implicitDefEqProofs only [go_sem,hcc]
     refine WantM.intro (zb6 X.1 1 1 8 (by omega) hrp hrt) ?_
     simp -implicitDefEqProofs only [go_sem]
     exact ⟨hlt,pC X,hX1,⟨hinv.rd.num _ _ _,by show X.2.proof.length≤_;omega,by show X.2.leaves.length≤_;omega⟩,rfl⟩
    ·have hcc:((112:Nat):Int)=112:=rfl
     simp -implicitDefEqProofs only [go_sem,hcc]
     refine WantM.intro (zb6 X.1 1 0 16 (by omega) hrp hrt) ?_
     have hv:=jb X.1 1 16 (by omega)
     have hr1:=hinv.rd.num 1 0 16
     have hfin:pOf 112 X=((yI (yl X.1 1 0 16).1.toNat (yl X.1 1 0 16).2).2,{X.2 with proof:=X.2.proof++(yI (yl X.1 1 0 16).1.toNat (yl X.1 1 0 16).2).1}):=rfl
     generalize yl X.1 1 0 16=y at *
     obtain ⟨v,R⟩:=y
     simp only at hv hr1 hfin
     simp -implicitDefEqProofs only [go_sem]
     refine zU (fun m z=>∃i:Nat,i≤v.toNat∧m=v.toNat - i∧z=⟨157,[(0,vS text),(2,.ptr 2 0 [] 11 0 0),(3,.ptr 3 0 [] 2 0 0),(4,.ptr 4 0 [] 4 0 0),(6,.ptr 6 0 [] 11 0 0),(9,vI (v - (i:Int))),(51,.it r)],mSig ((yI i R).2,{X.2 with proof:=X.2.proof++(yI i R).1}),1⟩) v.toNat ?_ ?_
     ·simp -implicitDefEqProofs only [go_sem]
      exact ⟨0,Nat.zero_le _,rfl,by simp [yI]⟩
     ·rintro m z ⟨i,hi,rfl,rfl⟩
      have hlen:=zbH i R
      have hri:=hr1.digs i
      rcases Nat.lt_or_ge i v.toNat with hl | hge
      ·have hlt':v - (i:Int)>0:=by omega
       have w4:IntKind.i64.wrap (v - (i:Int) - 1)=v - ((i+1:Nat):Int):=by rw [wrS (by omega)];omega
       have ha:∀x,_:=fun x=>zH (E:=MDig.cs) (l:=X.2.proof++(yI i R).1) (xs:=[x]) (b:=32) (n:=100) (by simp [hlen];omega) (by omega) (by omega)
       simp -implicitDefEqProofs only [go_sem,hlt']
       refine WantM.intro (zmT (yI i R).2 (by rw [hri.t];exact hri.p) (by rw [hri.t];exact ht)) ?_
       simp -implicitDefEqProofs only [go_sem,ha,w4]
       exact ⟨_,by omega,i+1,hl,rfl,by simp [yI];rfl⟩
      ·have hi:i=v.toNat:=by omega
       have hlt':¬(v - (i:Int)>0):=by omega
       simp -implicitDefEqProofs only [go_sem,hlt']
       subst hi
       rw [hfin] at hX1
       exact ⟨hlt,_,hX1,⟨hri,by simp [hlen];omega,by simp [hlen];omega⟩,rfl⟩
    ·have hcc:((108:Nat):Int)=108:=rfl
     simp -implicitDefEqProofs only [go_sem,hcc]
     refine WantM.intro (zb6 X.1 1 0 8 (by omega) hrp hrt) ?_
     have hv:=jb X.1 1 8 (by omega)
     have hr1:=hinv.rd.num 1 0 8
     have hfin:pOf 108 X=((zK (yl X.1 1 0 8).1.toNat (yl X.1 1 0 8).2).2,{X.2 with leaves:=X.2.leaves++(zK (yl X.1 1 0 8).1.toNat (yl X.1 1 0 8).2).1}):=rfl
     generalize yl X.1 1 0 8=y at *
     obtain ⟨v,R⟩:=y
     simp only at hv hr1 hfin
     simp -implicitDefEqProofs only [go_sem]
     refine zU (fun m z=>∃i:Nat,i≤v.toNat∧m=v.toNat - i∧z=⟨157,[(0,vS text),(2,.ptr 2 0 [] 11 0 0),(3,.ptr 3 0 [] 2 0 0),(4,.ptr 4 0 [] 4 0 0),(6,.ptr 6 0 [] 11 0 0),(10,vI (v - (i:Int))),(51,.it r)],mSig ((zK i R).2,{X.2 with leaves:=X.2.leaves++(zK i R).1}),1⟩) v.toNat ?_ ?_
     ·simp -implicitDefEqProofs only [go_sem]
      exact ⟨0,Nat.zero_le _,rfl,by simp [zK]⟩
     ·rintro m z ⟨i,hi,rfl,rfl⟩
      have hlen:=zab i R
      have hri:=hr1.leafs i
      rcases Nat.lt_or_ge i v.toNat with hl | hge
      ·have hlt':v - (i:Int)>0:=by omega
       have w4:IntKind.i64.wrap (v - (i:Int) - 1)=v - ((i+1:Nat):Int):=by rw [wrS (by omega)];omega
       have ha:∀x,_:=fun x=>zH (E:=zs) (l:=X.2.leaves++(zK i R).1) (xs:=[x]) (b:=16) (n:=100) (by simp [hlen];omega) (by omega) (by omega)
       simp -implicitDefEqProofs only [go_sem,hlt']
       refine WantM.intro (zb6 (zK i R).2 1 0 40 (by omega) (by rw [hri.t];exact hri.p) (by rw [hri.t];exact ht)) ?_
       have hr2:=hri.num 1 0 40
       have hbd:=jb (zK i R).2 1 40 (by omega)
       have hcast:(yl (zK i R).2 1 0 40).1=((yl (zK i R).2 1 0 40).1.toNat:Int):=(Int.toNat_of_nonneg hbd.1).symm
       simp -implicitDefEqProofs only [go_sem]
       rw [hcast]
       refine WantM.intro (zhb (yl (zK i R).2 1 0 40).2 (yl (zK i R).2 1 0 40).1.toNat (by omega) (by rw [hr2.t];exact hr2.p) (by rw [hr2.t];exact ht)) ?_
       simp -implicitDefEqProofs only [go_sem,ha,w4]
       exact ⟨_,by omega,i+1,hl,rfl,by simp [zK,zaO,zs]⟩
      ·have hi:i=v.toNat:=by omega
       have hlt':¬(v - (i:Int)>0):=by omega
       simp -implicitDefEqProofs only [go_sem,hlt']
       subst hi
       rw [hfin] at hX1
       exact ⟨hlt,_,hX1,⟨hri,by simp [hlen];omega,by simp [hlen];omega⟩,rfl⟩
   ·rintro r pos z ⟨hle,X,hX,hinv,rfl⟩ hge
    have hpos:pos=(l5P (bN text 0:Int)).size:=by omega
    subst hpos
    have hM:zl text=xk text X:=by
     unfold zl
     rw [if_neg h',if_pos hin,zjc hin,hX]
    have hs3:(l5P (bN text 0:Int)).size≤3:=by
     have hk':bN text 0=1∨bN text 0=2∨bN text 0=3∨bN text 0=4∨bN text 0=5∨bN text 0=6∨bN text 0=7∨bN text 0=8:=by omega
     rcases hk' with e | e | e | e | e | e | e | e<;>rw [e]<;>decide
    have hpl:=hinv.pl
    have hll:=hinv.ll
    have hrp:=hinv.rd.p
    rw [hM]
    obtain ⟨⟨t1,p1,c1,a1⟩,k1,s1,f1,z1,⟨da,db,dc,dd⟩,n1,ps,ls⟩:=X
    have ht1:t1=text:=hinv.rd.t
    subst t1
    simp only at hpl hll hrp
    clear hM hX hinv
    by_cases hc:c1=0
    ·subst hc
     by_cases hp:p1<text.size
     ·have hp':(p1:Int)<(text.size:Int):=by omega
      rw [show xk text (⟨text,p1,0,a1⟩,⟨k1,s1,f1,z1,⟨da,db,dc,dd⟩,n1,ps,ls⟩)=(.zero,4,(p1:Int)) from by simp [xk,hp]]
      simp -implicitDefEqProofs only [go_sem,hp',MMsg.zero]
      first | done | rfl | exact ⟨rfl,rfl⟩
     ·have hp':¬(p1:Int)<(text.size:Int):=by omega
      rw [show xk text (⟨text,p1,0,a1⟩,⟨k1,s1,f1,z1,⟨da,db,dc,dd⟩,n1,ps,ls⟩)=(⟨k1,s1,f1,z1,⟨da,db,dc,dd⟩,n1,ps,ls⟩,0,0) from by simp [xk,hp]]
      simp -implicitDefEqProofs only [go_sem,hp']
      refine Want.intro (zmS ps (by omega)) ?_
      simp -implicitDefEqProofs only [go_sem]
      refine Want.intro (zrJ ls (by omega)) ?_
      simp -implicitDefEqProofs only [go_sem]
      first | done | rfl | exact ⟨rfl,rfl⟩
    ·have hc1:(c1==0)=false:=by simpa using hc
     have hc2:(c1 != 0)=true:=by simpa using hc
     rw [show xk text (⟨text,p1,c1,a1⟩,⟨k1,s1,f1,z1,⟨da,db,dc,dd⟩,n1,ps,ls⟩)=(.zero,c1,a1) from by simp [xk,hc]]
     simp -implicitDefEqProofs only [go_sem,hc1,hc2,MMsg.zero]
     first | done | rfl | exact ⟨rfl,rfl⟩
end Go.Proofs.YtpjpkmhaffmbmaaGreat.E
end
section
namespace Go.Proofs.YtpjpkmhaffmbmaaGreat.E
open Go Go.RowKit
set_option maxHeartbeats 4000000
set_option maxRecDepth 10000
set_option linter.unusedSimpArgs false
set_option linter.unusedVariables false
set_option linter.unusedSectionVars false
def dcD6:Dec:=⟨[],[9,10,11],[22,30,37,38,39,40,49,56,76,80,87,141,143,159,237,250,259],false⟩
theorem zB {i n:Nat} (h:i<n) (hn:n≤maxLen):IntKind.i64.wrap ((i:Int)+1)=((i+1:Nat):Int):=by
 unfold maxLen at hn
 rw [wrS (by omega)]
 omega
def zjz {α:Type} (e:α→α→Bool):List α→List α→Bool
 | [],[]=>true
 | a::l,b::m=>e a b&&zjz e l m
 | _,_=>false
theorem zgR {α:Type} {e:α→α→Bool}:∀{l m:List α},zjz e l m=true→l.length=m.length
 | [],[],_=>rfl
 | a::l,b::m,h=>by simp only [zjz,Bool.and_eq_true] at h;simp [zgR h.2]
theorem zjy {α:Type} {e:α→α→Bool} {l m:List α} {i:Nat} (h:i<l.length) (k:i<m.length):zjz e (l.drop i) (m.drop i)=(e l[i] m[i]&&zjz e (l.drop (i+1)) (m.drop (i+1))):=by
 rw [List.drop_eq_getElem_cons h,List.drop_eq_getElem_cons k];rfl
theorem zjx {α:Type} {e:α→α→Bool} (h:∀a,e a a=true):∀l:List α,zjz e l l=true
 | []=>rfl
 | a::l=>by simp [zjz,h,zjx h l]
def yE {α:Type} (mk:Int→α × Int):Nat→Int→List α × Int
 | 0,k=>([],k)
 | n+1,k=>((yE mk n k).1++[(mk (yE mk n k).2).1],(mk (yE mk n k).2).2)
theorem yM {α:Type} {mk:Int→α × Int} {n:Nat} {k:Int}:(yE mk n k).1.length=n:=by
 induction n with
 | zero=>rfl
 | succ n ih=>simp [yE,ih]
theorem zj0 {α:Type} {mk:Int→α × Int} {n i:Nat} {k:Int} (h:i<n):(yE mk n k).1[i]?=some (mk (yE mk i k).2).1:=by
 induction n with
 | zero=>omega
 | succ n ih=>
  simp only [yE]
  rcases Nat.lt_or_ge i n with hi | hi
  ·rw [List.getElem?_append_left (by rw [yM];exact hi),ih hi]
  ·have:i=n:=by omega
   subst this
   rw [List.getElem?_append_right (by rw [yM];exact Nat.le_refl _),yM,Nat.sub_self]
   rfl
def ja {α:Type} (E:α→List AV) (mk:Int→α × Int) (l:List α) (i:Nat) (k:Int):List (List AV):=(yE mk i k).1.map E++(l.drop i).map E
theorem znG {α:Type} {E:α→List AV} {mk:Int→α × Int} {l:List α} {k:Int}:ja E mk l 0 k=l.map E:=by simp [ja,yE]
theorem zoY {α:Type} {E:α→List AV} {mk:Int→α × Int} {l:List α} {k:Int}:ja E mk l l.length k=(yE mk l.length k).1.map E:=by simp [ja]
theorem zoW {α:Type} {E:α→List AV} {mk:Int→α × Int} {l:List α} {i:Nat} {k:Int} (h:i≤l.length):(ja E mk l i k).length=l.length:=by simp [ja,yM];omega
theorem zoX {α:Type} {E:α→List AV} {mk:Int→α × Int} {l:List α} {i:Nat} {k:Int} (h:i<l.length):(ja E mk l i k)[i]?=some (E l[i]):=by
 unfold ja
 rw [List.getElem?_append_right (by simp [yM]),List.length_map,yM,Nat.sub_self,List.getElem?_map,List.getElem?_drop,Nat.add_zero,List.getElem?_eq_getElem h]
 rfl
theorem zoV {α:Type} {E:α→List AV} {mk:Int→α × Int} {l:List α} {i:Nat} {k:Int} (h:i<l.length):(ja E mk l i k).set i (E (mk (yE mk i k).2).1)=ja E mk l (i+1) k:=by
 unfold ja
 rw [List.set_append_right _ _ (by simp [yM]),List.length_map,yM,Nat.sub_self,List.drop_eq_getElem_cons h,List.map_cons,List.set_cons_zero]
 simp [yE]
def zlG {α:Type} (eq:α→Int→Bool) (nx:Int→Int):List α→Int→Int
 | [],k=>k
 | a::l,k=>if eq a k then zlG eq nx l (nx k) else -1
theorem zhO {α:Type} {eq:α→Int→Bool} {mk:Int→α × Int} (he:∀k,eq (mk k).1 k=true):∀(n i:Nat) (k:Int),i≤n→zlG eq (fun k=>(mk k).2) ((yE mk n k).1.drop i) (yE mk i k).2=(yE mk n k).2:=by
 intro n i k hi
 obtain ⟨d,hd⟩:∃d,n=i+d:=⟨n - i,by omega⟩
 induction d generalizing i with
 | zero=>
  have:i=n:=by omega
  subst this
  rw [List.drop_of_length_le (by rw [yM];exact Nat.le_refl _)]
  rfl
 | succ d ih=>
  have hlt:i<(yE mk n k).1.length:=by rw [yM];omega
  rw [List.drop_eq_getElem_cons hlt,zlG]
  have hg:=zj0 (mk:=mk) (k:=k) (show i<n by omega)
  rw [List.getElem?_eq_getElem hlt] at hg
  have hg:=Option.some.inj hg
  rw [hg,if_pos (he _)]
  exact ih (i+1) (by omega) (by omega)
theorem zqL {α:Type} {eq:α→Int→Bool} {mk:Int→α × Int} (he:∀k,eq (mk k).1 k=true) (n:Nat) (k:Int):zlG eq (fun k=>(mk k).2) (yE mk n k).1 k=(yE mk n k).2:=by
 have:=zhO he n 0 k (Nat.zero_le _)
 simpa [yE] using this
theorem zqK {α:Type} {mk:Int→α × Int} {c:Nat} (hmk:∀k:Int,0≤k→k+c<9223372036854775807→(mk k).2=k+c):∀(n:Nat) (k:Int),0≤k→k+c * n<9223372036854775807→(yE mk n k).2=k+c * n:=by
 intro n
 induction n with
 | zero=>intro k h1 h2;simp [yE]
 | succ n ih=>
  intro k h1 h2
  have e:(c:Int) * ((n+1:Nat):Int)=c * n+c:=by rw [Int.natCast_succ,Int.mul_add,Int.mul_one]
  rw [e] at h2 ⊢
  have hc:0≤(c:Int) * n:=Int.mul_nonneg (Int.natCast_nonneg _) (Int.natCast_nonneg _)
  simp only [yE]
  rw [ih k h1 (by omega),hmk _ (by omega) (by omega)]
  omega
def zqV (k:Nat) (out:ByteArray):ByteArray:=if h:k=0 then out else zqV (k/10) (⟨#[UInt8.ofNat (48+k%10)]⟩++out)
termination_by k
decreasing_by omega
def zqa (k:Int):ByteArray:=if k≤0 then ⟨#[109,48]⟩ else ⟨#[109]⟩++zqV k.toNat ⟨#[]⟩
theorem zqT {k:Nat} {out:ByteArray} (h:0<k):zqV k out=zqV (k/10) (⟨#[UInt8.ofNat (48+k%10)]⟩++out):=by
 rw [zqV,dif_neg (by omega)]
theorem size_one (b:UInt8):(⟨#[b]⟩:ByteArray).size=1:=rfl
attribute [go_sem] qI
def qS (a b:MDig):Bool:=!((a.a:Int) != (b.a:Int))&&(!((a.b:Int) != (b.b:Int))&&(!((a.c:Int) != (b.c:Int))&&!((a.d:Int) != (b.d:Int))))
theorem zpq (a:MDig):qS a a=true:=by simp [qS]
theorem c89_c (a b:MDig):CallR Tryz.prog 89 [.agg a.cs,.agg b.cs] (vB (qS a b)) []:=by
 refine zj dcD6 false Tryz.f89 ?_
 conv=>enter [1];reduce
 refine jvR Tryz.f89 25 [.tmp 4] (by kernel_rfl) (by decide +kernel) rfl ?_
 simp -implicitDefEqProofs only [go_sem,qS]
 repeat' first | (refine zm (fun h=>?_) (fun h=>?_)<;>try simp -implicitDefEqProofs only [go_sem,h]) | (refine zi (fun h=>?_) (fun h=>?_)<;>try simp -implicitDefEqProofs only [go_sem,h])
 all_goals simp_all
def eqBy (a b:ByteArray):Bool:=a.toList==b.toList
theorem zqQ (a:ByteArray):eqBy a a=true:=by simp [eqBy]
theorem c34_c (l m:List MDig) (hl:l.length≤maxLen):CallR Tryz.prog 34 [.ro 4 (l.map MDig.cs),.ro 4 (m.map MDig.cs)] (vB (zjz qS l m)) []:=by
 refine zj dcD6 false Tryz.f34 ?_
 conv=>enter [1];reduce
 refine jvR Tryz.f34 27 [.tmp 4] (by kernel_rfl) (by decide +kernel) rfl ?_
 simp -implicitDefEqProofs only [go_sem]
 refine zi (fun h=>?_) (fun h=>?_)
 ·simp -implicitDefEqProofs only [go_sem,h]
  have h:¬l.length=m.length:=by have:=bne_iff_ne.1 h;omega
  cases hm:zjz qS l m with
  | true=>exact absurd (zgR hm) h
  | false=>rfl
 ·have h0:l.length=m.length:=by have:=bne_eq_false_iff_eq.1 h;omega
  simp -implicitDefEqProofs only [go_sem,h]
  refine zU (fun k s=>∃(i:Nat),i≤l.length∧k=l.length - i∧zjz qS (l.drop i) (m.drop i)=zjz qS l m∧s=⟨27,[(0,.ro 4 (l.map MDig.cs)),(1,.ro 4 (m.map MDig.cs)),(5,vI i)],[],1⟩) l.length
   (by simp -implicitDefEqProofs only [go_sem];exact ⟨0,Nat.zero_le _,rfl,rfl,rfl⟩) ?_
  rintro k s ⟨i,hi,rfl,hx,rfl⟩
  rcases Nat.lt_or_ge i l.length with hlt | hge
  ·have hlt':(i:Int)<(l.length:Int):=by omega
   have hlm:i<m.length:=by omega
   have hlm':(i:Int)<(m.length:Int):=by omega
   have hg:l[i]?=some l[i]:=List.getElem?_eq_getElem hlt
   have hg2:m[i]?=some m[i]:=List.getElem?_eq_getElem hlm
   have hw:=zB hlt hl
   rw [zjy hlt hlm] at hx
   simp -implicitDefEqProofs only [go_sem,hlt',hlm',hg,hg2]
   refine Want.intro (c89_c _ _) ?_
   simp -implicitDefEqProofs only [go_sem]
   refine zi (fun h=>?_) (fun h=>?_)
   ·simp -implicitDefEqProofs only [go_sem,h]
    simp_all
   ·simp -implicitDefEqProofs only [go_sem,h,hw]
    refine ⟨_,by omega,i+1,hlt,rfl,?_,rfl⟩
    simp_all
  ·have hi:i=l.length:=by omega
   subst hi
   have hlt':¬((l.length:Int)<(l.length:Int)):=by omega
   rw [List.drop_length,h0,List.drop_length] at hx
   simp -implicitDefEqProofs only [go_sem,hlt']
   rw [←hx];rfl
def zfN (k:Int):MDig × Int:=(⟨k.toNat,(k+1).toNat,(k+1+1).toNat,(k+1+1+1).toNat⟩,k+1+1+1+1)
def zqS (d:MDig) (k:Int):Bool:=(d.a:Int)==(k.toNat:Int)&&((d.b:Int)==((k+1).toNat:Int)&&((d.c:Int)==((k+1+1).toNat:Int)&&(d.d:Int)==((k+1+1+1).toNat:Int)))
theorem digIs_mk (k:Int):zqS (zfN k).1 k=true:=by simp [zqS,zfN]
theorem zp5 (n:Nat) (k:Int):(yE zfN n k).2=k+4 * n:=by
 induction n with
 | zero=>simp [yE]
 | succ n ih=>simp only [yE,zfN,ih];omega
theorem u64_of {z:Int} (h:0≤z∧z<9223372036854775808):IntKind.u64.wrap z=(z.toNat:Int):=by
 obtain ⟨n,rfl⟩:∃n:Nat,z=n:=⟨z.toNat,by omega⟩
 rw [yx n (by omega)]
 rfl
def zoT (k:Int):ByteArray × Int:=(zqa k,k+1)
def byIs (s:ByteArray) (k:Int):Bool:=s.toList==(zqa k).toList
theorem byIs_mk (k:Int):byIs (zoT k).1 k=true:=by simp [byIs,zoT]
theorem mkBy_num (n:Nat) (k:Int):(yE zoT n k).2=k+n:=by
 induction n with
 | zero=>simp [yE]
 | succ n ih=>simp only [yE,zoT,ih];omega
end Go.Proofs.YtpjpkmhaffmbmaaGreat.E
end
section
namespace Go.Proofs.YtpjpkmhaffmbmaaGreat.E
open Go Go.RowKit
set_option maxHeartbeats 4000000
set_option maxRecDepth 10000
set_option linter.unusedSimpArgs false
set_option linter.unusedVariables false
set_option linter.unusedSectionVars false
def MMsg.ro (m:MMsg):AV:=.agg [vI m.kind,vI m.session,vI m.from_,vI m.size,vU m.root.a,vU m.root.b,vU m.root.c,vU m.root.d,vI m.count,.ro 4 (m.proof.map MDig.cs),.ro 1 (m.leaves.map zs)]
def MMsg.mv (m:MMsg):AV:=.agg [vI m.kind,vI m.session,vI m.from_,vI m.size,vU m.root.a,vU m.root.b,vU m.root.c,vU m.root.d,vI m.count,.blk 1000000 0 [] 4 0 m.proof.length,.blk 1000001 0 [] 1 0 m.leaves.length]
attribute [go_sem] MMsg.ro MMsg.mv
def mkMsg (m:MMsg) (k:Int):MMsg:={m with proof:=(yE zfN m.proof.length k).1,leaves:=(yE zoT m.leaves.length (yE zfN m.proof.length k).2).1}
def mkMsgN (m:MMsg) (k:Int):Int:=(yE zoT m.leaves.length (yE zfN m.proof.length k).2).2
theorem zhH {text:ByteArray} (r:MRd) (z:Int) (k:Nat):(xo k (r,{MMsg.zero with kind:=z})).2.proof.length≤1000∧(xo k (r,{MMsg.zero with kind:=z})).2.leaves.length≤1000:=by
 unfold xo
 split<;>first
  | exact ⟨Nat.zero_le _,Nat.zero_le _⟩
  | (refine ⟨?_,Nat.zero_le _⟩
     show (yI _ _).1.length≤1000
     rw [zbH]
     have:=jb (pZ (pF (r,{MMsg.zero with kind:=z}))).1 1 16 (by omega)
     omega)
  | (refine ⟨Nat.zero_le _,?_⟩
     show (zK _ _).1.length≤1000
     rw [zab]
     have:=jb (pF (r,{MMsg.zero with kind:=z})).1 1 8 (by omega)
     omega)
theorem zbD (text:ByteArray):(zl text).1.proof.length≤1000∧(zl text).1.leaves.length≤1000:=by
 unfold zl
 split
 ·exact ⟨Nat.zero_le _,Nat.zero_le _⟩
 ·split
  ·unfold xk
   split
   ·split
    ·exact ⟨Nat.zero_le _,Nat.zero_le _⟩
    ·exact zhH (text:=text) _ _ _
   ·exact ⟨Nat.zero_le _,Nat.zero_le _⟩
  ·exact ⟨Nat.zero_le _,Nat.zero_le _⟩
end Go.Proofs.YtpjpkmhaffmbmaaGreat.E
end
section
namespace Go.Proofs.YtpjpkmhaffmbmaaGreat.E
open Go Go.RowKit
set_option maxHeartbeats 4000000
set_option maxRecDepth 10000
set_option linter.unusedSimpArgs false
set_option linter.unusedVariables false
set_option linter.unusedSectionVars false
def zpv:Dec:=⟨[],[9,10,11],[22,30,37,38,39,40,49,56,76,80,87,141,143,159,237,250,259],false⟩
def xK (h:Bool) (n lo hi:Int):Bool:=if h then mIn n lo hi else n==0
theorem zmE (h:Bool) (n lo hi:Int):CallR Tryz.prog 196 [vB h,vI n,vI lo,vI hi] (vB (xK h n lo hi)) []:=by
 refine zj zpv false Tryz.f196 ?_
 conv=>enter [1];reduce
 refine jvR Tryz.f196 17 [.tmp 8] (by kernel_rfl) (by decide +kernel) rfl ?_
 simp -implicitDefEqProofs only [go_sem]
 refine zi (fun h1=>?_) (fun h1=>?_)
 ·have h2:h=false:=by simpa using h1
  subst h2
  simp -implicitDefEqProofs only [go_sem,xK]
  try rfl
 ·have h2:h=true:=by simpa using h1
  subst h2
  simp -implicitDefEqProofs only [go_sem,xK]
  refine Want.intro (qq n lo hi) ?_
  simp -implicitDefEqProofs only [go_sem]
  try rfl
def zq (l:List ByteArray):Bool:=l.all fun s=>decide (s.size≤40)
theorem qD {l:List ByteArray} {i:Nat} (h:i<l.length):zq (l.drop i)=(decide (l[i].size≤40)&&zq (l.drop (i+1))):=by
 rw [List.drop_eq_getElem_cons h];rfl
theorem zmM (l:List ByteArray) (hl:l.length≤maxLen):CallR Tryz.prog 133 [.ro 1 (l.map zs)] (vB (decide (l.length≤8)&&zq l)) []:=by
 refine zj zpv false Tryz.f133 ?_
 conv=>enter [1];reduce
 refine jvR Tryz.f133 19 [.tmp 2] (by kernel_rfl) (by decide +kernel) rfl ?_
 simp -implicitDefEqProofs only [go_sem]
 refine zi (fun h=>?_) (fun h=>?_)
 ·have h2:¬l.length≤8:=by have:=of_decide_eq_true h;omega
  simp -implicitDefEqProofs only [go_sem,h]
  simp [h2]
 ·have h2:l.length≤8:=by have:=of_decide_eq_false h;omega
  simp -implicitDefEqProofs only [go_sem,h]
  refine zU (fun k s=>∃(i:Nat),i≤l.length∧k=l.length - i∧zq (l.drop i)=zq l∧s=⟨19,[(0,.ro 1 (l.map zs)),(3,vI i)],[],1⟩) l.length
   (by simp -implicitDefEqProofs only [go_sem];exact ⟨0,Nat.zero_le _,rfl,rfl,rfl⟩) ?_
  rintro k s ⟨i,hi,rfl,hx,rfl⟩
  rcases Nat.lt_or_ge i l.length with hlt | hge
  ·have hlt':(i:Int)<(l.length:Int):=by omega
   have hg:l[i]?=some l[i]:=List.getElem?_eq_getElem hlt
   have hw:=zB hlt hl
   rw [qD hlt] at hx
   simp -implicitDefEqProofs only [go_sem,hlt',hg]
   refine zi (fun h=>?_) (fun h=>?_)
   ·have h3:¬l[i].size≤40:=by have:=of_decide_eq_true h;omega
    simp -implicitDefEqProofs only [go_sem,h]
    simp [h3] at hx
    simp [h2,←hx]
   ·have h3:l[i].size≤40:=by have:=of_decide_eq_false h;omega
    simp -implicitDefEqProofs only [go_sem,h,hw]
    refine ⟨_,by omega,i+1,hlt,rfl,?_,rfl⟩
    rw [←hx]
    simp [h3]
  ·have hi:i=l.length:=by omega
   subst hi
   have hlt':¬((l.length:Int)<(l.length:Int)):=by omega
   rw [List.drop_length] at hx
   simp -implicitDefEqProofs only [go_sem,hlt']
   simp [h2,←hx]
   try rfl
def qZ (v:Nat):Nat→ByteArray
 | 0=>⟨#[]⟩
 | n+1=>qZ (v/256) n++⟨#[UInt8.ofNat (v%256)]⟩
theorem zbu (v n:Nat):(qZ v n).size=n:=by
 induction n generalizing v with
 | zero=>rfl
 | succ n ih=>rw [qZ,ByteArray.size_append,ih];rfl
theorem zlV:∀(n v:Nat),n≤10→v≤1000000000→CallR Tryz.prog 76 [vI v,vI n] (vS (qZ v n)) []
 | 0,v,hn,hv=>by
  refine zj zpv false Tryz.f76 ?_
  conv=>enter [1];reduce
  refine jvR Tryz.f76 18 [.tmp 4] (by kernel_rfl) (by decide +kernel) rfl ?_
  simp -implicitDefEqProofs only [go_sem]
  refine zi (fun h=>?_) (fun h=>?_)
  ·simp -implicitDefEqProofs only [go_sem,h]
   rfl
  ·exact absurd h (by decide)
 | n+1,v,hn,hv=>by
  refine zj zpv false Tryz.f76 ?_
  conv=>enter [1];reduce
  refine jvR Tryz.f76 18 [.tmp 4] (by kernel_rfl) (by decide +kernel) rfl ?_
  simp -implicitDefEqProofs only [go_sem]
  have hlt:¬(((n+1:Nat):Int)<1):=by omega
  have htm:((v:Int)).tmod 256=((v%256:Nat):Int):=by rw [Int.tmod_eq_emod_of_nonneg (by omega)];omega
  have htd:((v:Int)).tdiv 256=((v/256:Nat):Int):=by rw [Int.tdiv_eq_ediv_of_nonneg (by omega)];omega
  have w1:IntKind.i64.wrap ((v/256:Nat):Int)=((v/256:Nat):Int):=wrS (by omega)
  have w2:IntKind.i64.wrap (((n+1:Nat):Int) - 1)=(n:Int):=by rw [wrS (by omega)];omega
  have w3:(IntKind.u8.wrap ((v%256:Nat):Int))=((v%256:Nat):Int):=by
   have h8:IntKind.u8.bits=8:=rfl
   have hs:IntKind.u8.signed=false:=rfl
   simp only [IntKind.wrap,h8,hs,Bool.false_and,Bool.false_eq_true,if_false]
   omega
  simp -implicitDefEqProofs only [go_sem,hlt,htm,htd,w1,w2,w3]
  refine Want.intro (zlV n (v/256) (by omega) (by omega)) ?_
  have hsz:¬((((qZ (v/256) n).size+(#[UInt8.ofNat (v%256)]:Array UInt8).size:Nat):Int)>9223372036854775807):=by
   rw [zbu]
   simp
   omega
  simp -implicitDefEqProofs only [go_sem,hsz]
  rfl
theorem zgI (k:Int):CallR Tryz.prog 101 [vI k] (vS (l5P k)) []:=by
 by_cases hk:0≤k
 ·obtain ⟨n,rfl⟩:∃n:Nat,k=n:=⟨k.toNat,by omega⟩
  exact zmU n
 ·refine zj zpv false Tryz.f101 ?_
  conv=>enter [1];reduce
  refine jvR Tryz.f101 10 [.tmp 2] (by kernel_rfl) (by decide +kernel) rfl ?_
  simp -implicitDefEqProofs only [go_sem]
  refine Want.intro (qq _ _ _) ?_
  have hin:mIn k 1 8=false:=by simp [mIn];omega
  simp -implicitDefEqProofs only [go_sem,hin]
  rw [l5P,if_neg (by omega),if_neg (by omega),if_neg (by omega),if_neg (by omega),if_neg (by omega),if_neg (by omega)]
theorem zlz (k:Int):(l5P k).size≤3:=by
 unfold l5P
 repeat' split
 all_goals decide
theorem xO (k:Int) (c:Nat):CallR Tryz.prog 197 [vI k,.sc (.int .u8 (c:Int))] (vB (zM (l5P k) c)) []:=by
 refine zj zpv false Tryz.f197 ?_
 conv=>enter [1];reduce
 refine jvR Tryz.f197 20 [.tmp 4] (by kernel_rfl) (by decide +kernel) rfl ?_
 simp -implicitDefEqProofs only [go_sem]
 refine Want.intro (zgI k) ?_
 have hs3:=zlz k
 generalize l5P k=s at *
 simp -implicitDefEqProofs only [go_sem]
 refine zU (fun m z=>∃i,i≤s.size∧m=s.size - i∧zfQ (s.data.toList.drop i) c=zM s c∧z=⟨20,[(1,.sc (.int .u8 (c:Int))),(5,vS s),(6,vI i)],[],1⟩) s.size ?_ ?_
 ·simp -implicitDefEqProofs only [go_sem]
  exact ⟨0,Nat.zero_le _,rfl,rfl,rfl⟩
 ·rintro m z ⟨i,hi,rfl,hx,rfl⟩
  rcases Nat.lt_or_ge i s.size with hlt | hge
  ·have hlt':(i:Int)<(s.size:Int):=by omega
   have hg:=qF (s:=s) (i:=i) hlt
   have w4:IntKind.i64.wrap ((i:Int)+1)=((i+1:Nat):Int):=by rw [wrS (by omega)];omega
   rw [zcR hlt] at hx
   simp -implicitDefEqProofs only [go_sem,hlt',hg]
   refine zi (fun h=>?_) (fun h=>?_)
   ·have h2:bN s i=c:=by have:=of_decide_eq_true h;omega
    simp -implicitDefEqProofs only [go_sem,h]
    rw [←hx,h2]
    simp
   ·have h2:¬bN s i=c:=fun e=>by rw [e] at h;simp at h
    simp -implicitDefEqProofs only [go_sem,h,w4]
    refine ⟨_,by omega,i+1,hlt,rfl,?_,rfl⟩
    rw [←hx]
    simp [h2]
  ·have hi:i=s.size:=by omega
   subst hi
   have hlt':¬((s.size:Int)<(s.size:Int)):=by omega
   simp -implicitDefEqProofs only [go_sem,hlt']
   rw [←hx]
   rw [List.drop_of_length_le (by rw [Array.length_toList];exact Nat.le_refl _)]
   rfl
end Go.Proofs.YtpjpkmhaffmbmaaGreat.E
end
section
namespace Go.Proofs.YtpjpkmhaffmbmaaGreat.E
open Go Go.RowKit
set_option maxHeartbeats 4000000
set_option maxRecDepth 10000
set_option linter.unusedSimpArgs false
set_option linter.unusedVariables false
set_option linter.unusedSectionVars false
def dcD9:Dec:=⟨[],[9,10,11],[22,30,37,38,39,40,49,56,76,80,87,141,143,159,237,250,259],false⟩
def low (v:Nat):Nat→List UInt8
 | 0=>[]
 | j+1=>UInt8.ofNat (v/256 ^ j%256)::low v j
theorem zP (v j:Nat):(low v j).length=j:=by
 induction j with
 | zero=>rfl
 | succ j ih=>simp [low,ih]
theorem zaZ (v n:Nat):low v (n+1)=low (v/256) n++[UInt8.ofNat (v%256)]:=by
 induction n with
 | zero=>simp [low]
 | succ n ih=>
  rw [low,ih,low]
  simp [Nat.div_div_eq_div_mul,Nat.pow_succ,Nat.mul_comm]
theorem zaW (v n:Nat):(qZ v n).data.toList=low v n:=by
 induction n generalizing v with
 | zero=>rfl
 | succ n ih=>
  rw [zaZ,qZ,ByteArray.data_append,Array.toList_append,ih]
theorem tmN (q:Nat):((q:Int)).tmod 256=((q%256:Nat):Int):=by rw [Int.tmod_eq_emod_of_nonneg (by omega)];omega
theorem tdN (q:Nat):((q:Int)).tdiv 256=((q/256:Nat):Int):=by rw [Int.tdiv_eq_ediv_of_nonneg (by omega)];omega
theorem wrN {q:Nat} (h:q≤1000000000):IntKind.i64.wrap (q:Int)=(q:Int):=wrS (by omega)
def zkS (v n j:Nat):List (List AV):=List.replicate (n - j) [.sc (.int .u8 0)]++(low v j).map zt
theorem zgK {v n j:Nat} (h:j≤n):(zkS v n j).length=n:=by simp [zkS,zP];omega
theorem zlp {v n j:Nat} (h:j<n):(zkS v n j)[n - 1 - j]?=some [.sc (.int .u8 0)]:=by
 unfold zkS
 rw [List.getElem?_append_left (by simp;omega),List.getElem?_replicate,if_pos (by omega)]
theorem zlo {v n j:Nat} (h:j<n):(zkS v n j).set (n - 1 - j) [.sc (.int .u8 ((v/256 ^ j%256:Nat):Int))]=zkS v n (j+1):=by
 unfold zkS
 obtain ⟨m,hm⟩:∃m,n - j=m+1:=⟨n - j - 1,by omega⟩
 have h1:n - 1 - j=m:=by omega
 have h2:n - (j+1)=m:=by omega
 rw [hm,h1,h2,List.replicate_succ',List.append_assoc,List.set_append_right _ _ (by simp)]
 simp [low,zt]
theorem zkk (v n:Nat) (hn:n≤10) (hv:v≤1000000000):CallR Tryz.prog 198 [vI v,vI n] (.blk 0 0 [] 1 0 n) [([],⟨1,(low v n).map zt,2,false⟩)]:=by
 refine zj dcD9 false Tryz.f198 ?_
 conv=>enter [1];reduce
 refine jvR Tryz.f198 24 [.tmp 4] (by kernel_rfl) (by decide +kernel) rfl ?_
 have hmk:((1:Nat):Int) * (n:Int)≤281474976710656∧(n:Int)≤9223372036854775807:=by omega
 have w1:IntKind.i64.wrap ((n:Int) - 1)=(n:Int) - 1:=wrS (by omega)
 simp -implicitDefEqProofs only [go_sem,hmk,w1,List.length_replicate]
 refine zU (fun m z=>∃j,j≤n∧m=n - j∧z=⟨24,[(0,vI ((v/256 ^ j:Nat):Int)),(5,.blk 5 0 [] 1 0 n),(6,vI ((n:Int) - 1 - (j:Int)))],[(5,0,one ⟨1,zkS v n j,2,false⟩)],1⟩) n ?_ ?_
 ·simp -implicitDefEqProofs only [go_sem]
  exact ⟨0,Nat.zero_le _,rfl,by simp [zkS,low]⟩
 ·rintro m z ⟨j,hj,rfl,rfl⟩
  rcases Nat.lt_or_ge j n with hlt | hge
  ·have hidx:(n:Int) - 1 - (j:Int)=((n - 1 - j:Nat):Int):=by omega
   have hge0:((n - 1 - j:Nat):Int)≥0:=by omega
   have hlt':((n - 1 - j:Nat):Int)<(n:Int):=by omega
   have hq:v/256 ^ j≤v:=Nat.div_le_self _ _
   have htm:(((v/256 ^ j:Nat):Int)).tmod 256=((v/256 ^ j%256:Nat):Int):=tmN _
   have htd:(((v/256 ^ j:Nat):Int)).tdiv 256=((v/256 ^ (j+1):Nat):Int):=by
    rw [tdN,Nat.pow_succ,←Nat.div_div_eq_div_mul]
   have hq2:v/256 ^ (j+1)≤v:=Nat.div_le_self _ _
   have w2:IntKind.i64.wrap ((v/256 ^ (j+1):Nat):Int)=((v/256 ^ (j+1):Nat):Int):=wrN (Nat.le_trans hq2 hv)
   have w4:IntKind.i64.wrap (((n - 1 - j:Nat):Int) - 1)=(n:Int) - 1 - ((j+1:Nat):Int):=by rw [wrS (by omega)];omega
   have w3:(IntKind.u8.wrap ((v/256 ^ j%256:Nat):Int))=((v/256 ^ j%256:Nat):Int):=by
    have h8:IntKind.u8.bits=8:=rfl
    have hs:IntKind.u8.signed=false:=rfl
    simp only [IntKind.wrap,h8,hs,Bool.false_and,Bool.false_eq_true,if_false]
    omega
   have hget:=zlp (v:=v) hlt
   have hset:=zlo (v:=v) hlt
   have hlen:=zgK (v:=v) hj
   simp -implicitDefEqProofs only [go_sem,hidx,hge0,hlt',htm,htd,w2,w3,hget,hset,hlen]
   exact ⟨_,by omega,j+1,hlt,rfl,by rw [w4]⟩
  ·have hj:j=n:=by omega
   subst hj
   have hge0:¬((j:Int) - 1 - (j:Int)≥0):=by omega
   have hlen:=zgK (v:=v) (Nat.le_refl j)
   simp -implicitDefEqProofs only [go_sem,hge0,hlen]
   simp [zkS]
end Go.Proofs.YtpjpkmhaffmbmaaGreat.E
end
section
namespace Go.Proofs.YtpjpkmhaffmbmaaGreat.E
open Go Go.RowKit
set_option maxHeartbeats 4000000
set_option maxRecDepth 10000
set_option linter.unusedSimpArgs false
set_option linter.unusedVariables false
set_option linter.unusedSectionVars false
def zlQ:Dec:=⟨[(120,.cm [false,true,false])],[9,10,11],[22,30,37,38,39,40,49,56,76,80,87,141,143,159,237,250,259],false⟩
theorem xl (l:List UInt8):qI (l.map zt)=some l:=by
 induction l with
 | nil=>rfl
 | cons a l ih=>simp [qI,zt,ih]
theorem je (v:Nat) (hv:v<18446744073709551616):CallR Tryz.prog 117 [vU v] (vS (qZ v 8)) []:=by
 refine zj zlQ false Tryz.f117 ?_
 conv=>enter [1];reduce
 refine jvR Tryz.f117 21 [.tmp 2] (by kernel_rfl) (by decide +kernel) rfl ?_
 simp -implicitDefEqProofs only [go_sem]
 refine zU (fun m z=>∃j,j≤8∧m=8 - j∧z=⟨21,[(0,vU v),(3,.blk 3 0 [] 1 0 (low (v/256 ^ (8 - j)) j).length),(4,vI (7 - (j:Int)))],[(3,0,one ⟨1,(low (v/256 ^ (8 - j)) j).map zt,2,false⟩)],1⟩) 8 ?_ ?_
 ·simp -implicitDefEqProofs only [go_sem]
  exact ⟨0,by omega,rfl,rfl⟩
 ·rintro m z ⟨j,hj,rfl,rfl⟩
  rcases Nat.lt_or_ge j 8 with hlt | hge
  ·have hge0:7 - (j:Int)≥0:=by omega
   have e1:IntKind.i64.wrap (8 * (7 - (j:Int)))=((8 * (7 - j):Nat):Int):=by rw [wrS (by omega)];omega
   have e2:IntKind.u64.wrap ((8 * (7 - j):Nat):Int)=((8 * (7 - j):Nat):Int):=yx _ (by omega)
   have e3:¬(((8 * (7 - j):Nat):Int)<0):=by omega
   have e4:8 * (7 - j)≤64:=by omega
   have e5:((v:Int)).fdiv (2 ^ (8 * (7 - j)))=((v/256 ^ (7 - j):Nat):Int):=by
    have hp:(2:Int) ^ (8 * (7 - j))=((256 ^ (7 - j):Nat):Int):=by
     rw [Int.pow_mul]
     simp
    rw [hp,Int.fdiv_eq_ediv_of_nonneg _ (Int.natCast_nonneg _)]
    rfl
   have e6:IntKind.u8.wrap ((v/256 ^ (7 - j):Nat):Int)=((v/256 ^ (7 - j)%256:Nat):Int):=by
    generalize v/256 ^ (7 - j)=q
    have h8:IntKind.u8.bits=8:=rfl
    have hs:IntKind.u8.signed=false:=rfl
    simp only [IntKind.wrap,h8,hs,Bool.false_and,Bool.false_eq_true,if_false]
    omega
   have e7:IntKind.i64.wrap (7 - (j:Int) - 1)=7 - ((j+1:Nat):Int):=by rw [wrS (by omega)];omega
   have ha:∀x,_:=fun x=>zH (E:=zt) (l:=low (v/256 ^ (8 - j)) j) (xs:=[x]) (b:=1) (n:=100) (by simp [zP];omega) (by omega) (by omega)
   simp -implicitDefEqProofs only [go_sem,hge0,e1,e2,e3,e4,e5,e6,e7,ha]
   have hst:low (v/256 ^ (8 - (j+1))) (j+1)=low (v/256 ^ (8 - j)) j++[UInt8.ofNat (v/256 ^ (7 - j)%256)]:=by
    rw [show 8 - (j+1)=7 - j by omega,zaZ,Nat.div_div_eq_div_mul,←Nat.pow_succ,show (7 - j).succ=8 - j by omega]
   exact ⟨_,by omega,j+1,hlt,rfl,by rw [hst];simp [zt]⟩
  ·have hj:j=8:=by omega
   subst hj
   have hge0:¬(7 - ((8:Nat):Int)≥0):=by omega
   simp -implicitDefEqProofs only [go_sem,hge0,xl]
   have e:(⟨(low (v/256 ^ 0) 8).toArray⟩:ByteArray)=qZ v 8:=by
    have:=zaW v 8
    rw [show v/256 ^ 0=v by simp,←this]
   rw [e]
structure MDig.ok (d:MDig):Prop where
 a:d.a<18446744073709551616
 b:d.b<18446744073709551616
 c:d.c<18446744073709551616
 d:d.d<18446744073709551616
def MDig.bytes (d:MDig):ByteArray:=qZ d.a 8++qZ d.b 8++qZ d.c 8++qZ d.d 8
theorem zgu (q:Nat):IntKind.u8.wrap (q:Int)=((q%256:Nat):Int):=by
 have h8:IntKind.u8.bits=8:=rfl
 have hs:IntKind.u8.signed=false:=rfl
 simp only [IntKind.wrap,h8,hs,Bool.false_and,Bool.false_eq_true,if_false]
 omega
theorem zbc (v:Nat) {m:Nat} (j:Nat) (h:m=8 * j):IntKind.u8.wrap ((v:Int).fdiv (2 ^ m))=((v/256 ^ j%256:Nat):Int):=by
 subst h
 have hp:(2:Int) ^ (8 * j)=((256 ^ j:Nat):Int):=by
  rw [Int.pow_mul]
  simp
 rw [hp,Int.fdiv_eq_ediv_of_nonneg _ (Int.natCast_nonneg _)]
 exact zgu _
theorem zq8 (d:MDig) (h:d.ok):CallR Tryz.prog 77 [.agg d.cs] (vS d.bytes) []:=by
 refine zj zlQ false Tryz.f77 ?_
 conv=>enter [1];reduce
 refine jvR Tryz.f77 18 [.tmp 2] (by kernel_rfl) (by decide +kernel) rfl ?_
 have hs:∀v,(qZ v 8).size=8:=fun v=>zbu v 8
 have hsz:∀a b c d:Nat,¬((((qZ a 8).size+(qZ b 8).size:Nat):Int)>9223372036854775807)∧¬((((qZ a 8).size+(qZ b 8).size+(qZ c 8).size:Nat):Int)>9223372036854775807)∧¬((((qZ a 8).size+(qZ b 8).size+(qZ c 8).size+(qZ d 8).size:Nat):Int)>9223372036854775807):=by
  intro a b c d
  simp only [hs]
  omega
 simp -implicitDefEqProofs only [go_sem]
 repeat' first | (refine Want.intro (by first | exact je _ h.a | exact je _ h.b | exact je _ h.c | exact je _ h.d) ?_;try simp -implicitDefEqProofs only [go_sem,(hsz d.a d.b d.c d.d).1,(hsz d.a d.b d.c d.d).2.1,(hsz d.a d.b d.c d.d).2.2]) | (refine WantM.intro (by first | exact je _ h.a | exact je _ h.b | exact je _ h.c | exact je _ h.d) ?_;try simp -implicitDefEqProofs only [go_sem,(hsz d.a d.b d.c d.d).1,(hsz d.a d.b d.c d.d).2.1,(hsz d.a d.b d.c d.d).2.2]) | (refine zm (fun h=>?_) (fun h=>?_)<;>try simp -implicitDefEqProofs only [go_sem,(hsz d.a d.b d.c d.d).1,(hsz d.a d.b d.c d.d).2.1,(hsz d.a d.b d.c d.d).2.2,h]) | (refine zi (fun h=>?_) (fun h=>?_)<;>try simp -implicitDefEqProofs only [go_sem,(hsz d.a d.b d.c d.d).1,(hsz d.a d.b d.c d.d).2.1,(hsz d.a d.b d.c d.d).2.2,h])
 rfl
theorem zaG (l:List UInt8) (v:Nat) (hl:l.length≤1000000):zS Tryz.prog 120 [(1000000,0,one ⟨1,l.map zt,2,false⟩)] [.agg [],.blk 1000000 0 [] 1 0 l.length,vU v] (.blk 0 0 [] 1 0 (l++low v 8).length) [(0,0,one ⟨1,(l++low v 8).map zt,2,false⟩)]:=by
 refine zj zlQ false Tryz.f120 ?_
 conv=>enter [1];reduce
 refine jvM Tryz.f120 33 [.tmp 6] (by kernel_rfl) (by decide +kernel) rfl ?_
 have e0:=zgu v
 have e7:=zbc v (m:=56) 7 rfl
 have e6:=zbc v (m:=48) 6 rfl
 have e5:=zbc v (m:=40) 5 rfl
 have e4:=zbc v (m:=32) 4 rfl
 have e3:=zbc v (m:=24) 3 rfl
 have e2:=zbc v (m:=16) 2 rfl
 have e1:=zbc v (m:=8) 1 rfl
 have ha:∀x0 x1 x2 x3 x4 x5 x6 x7,_:=fun x0 x1 x2 x3 x4 x5 x6 x7=>zH (E:=zt) (l:=l) (xs:=[x0,x1,x2,x3,x4,x5,x6,x7]) (b:=1) (n:=10000000) (by simp;omega) (by omega) (by omega)
 simp -implicitDefEqProofs only [go_sem,e0,e1,e2,e3,e4,e5,e6,e7,ha]
 simp [low,zt]
def MDig.bk (d:MDig):Nat→List UInt8
 | 0=>[]
 | 1=>low d.a 8
 | 2=>low d.a 8++low d.b 8
 | 3=>low d.a 8++low d.b 8++low d.c 8
 | _=>low d.a 8++low d.b 8++low d.c 8++low d.d 8
theorem MDig.bytes_bk (d:MDig):d.bytes=⟨(d.bk 4).toArray⟩:=by
 unfold MDig.bytes MDig.bk
 apply ByteArray.ext
 apply Array.toList_inj.1
 simp [ByteArray.data_append,Array.toList_append,zaW]
theorem low8 (v:Nat):(low v 8).length=8:=zP v 8
theorem MDig.bk_len (d:MDig) {i:Nat} (h:i≤4):(d.bk i).length=8 * i:=by
 have hi':i=0∨i=1∨i=2∨i=3∨i=4:=by omega
 rcases hi' with rfl | rfl | rfl | rfl | rfl<;>simp [MDig.bk,low8]
theorem zmD (d:MDig):CallR Tryz.prog 199 [.agg d.cs] (vS d.bytes) []:=by
 refine zj zlQ false Tryz.f199 ?_
 conv=>enter [1];reduce
 refine jvR Tryz.f199 27 [.tmp 2] (by kernel_rfl) (by decide +kernel) rfl ?_
 simp -implicitDefEqProofs only [go_sem]
 refine qO [(3,1)] (fun m s=>∃i,i≤4∧m=4 - i∧s=⟨27,[(3,.blk 3 0 [] 1 0 (d.bk i).length),(14,.blk 14 0 [] 1 0 4),(15,vI 4),(16,vI i)],[(3,0,one ⟨1,(d.bk i).map zt,2,false⟩),(14,0,one ⟨1,[[vU d.a],[vU d.b],[vU d.c],[vU d.d]],2,false⟩)],1⟩) 4 ?_ ?_
 ·simp -implicitDefEqProofs only [go_sem]
  exact ⟨0,by omega,rfl,rfl⟩
 ·rintro m s ⟨i,hi,rfl,rfl⟩
  rcases Nat.lt_or_ge i 4 with hlt | hge
  ·have hlt':(i:Int)<4:=by omega
   have w4:IntKind.i64.wrap ((i:Int)+1)=((i+1:Nat):Int):=by rw [wrS (by omega)];omega
   obtain ⟨w,hg,hk⟩:∃w,([[vU d.a],[vU d.b],[vU d.c],[vU d.d]]:List (List AV))[i]?=some [vU w]∧d.bk (i+1)=d.bk i++low w 8:=by
    have hi':i=0∨i=1∨i=2∨i=3:=by omega
    rcases hi' with rfl | rfl | rfl | rfl
    ·exact ⟨d.a,rfl,rfl⟩
    ·exact ⟨d.b,rfl,rfl⟩
    ·exact ⟨d.c,rfl,rfl⟩
    ·exact ⟨d.d,rfl,rfl⟩
   have hb:=d.bk_len (i:=i) (by omega)
   simp -implicitDefEqProofs only [go_sem,hlt',Int.cast_ofNat_Int,hg]
   refine WantM.intro (zaG (d.bk i) w (by omega)) ?_
   simp -implicitDefEqProofs only [go_sem,w4]
   exact ⟨_,by omega,i+1,hlt,rfl,by rw [hk]⟩
  ·have hi4:i=4:=by omega
   subst hi4
   have hlt':¬(((4:Nat):Int)<4):=by omega
   simp -implicitDefEqProofs only [go_sem,hlt',xl]
   rw [d.bytes_bk]
end Go.Proofs.YtpjpkmhaffmbmaaGreat.E
end
section
namespace Go.Proofs.YtpjpkmhaffmbmaaGreat.E
open Go Go.RowKit
set_option maxHeartbeats 4000000
set_option maxRecDepth 10000
set_option linter.unusedSimpArgs false
set_option linter.unusedVariables false
set_option linter.unusedSectionVars false
def zqZ:Dec:=⟨[],[9,10,11],[22,30,37,38,39,40,49,56,76,80,87,141,143,159,237,250,259],false⟩
def hS (k:Int):Bool:=decide (k=1∨k=2∨k=3∨k=6)
def hF (k:Int):Bool:=decide (k=4∨k=5∨k=7∨k=8)
def hZ (k:Int):Bool:=decide (k=2∨k=3∨k=4∨k=5∨k=6)
def hR (k:Int):Bool:=decide (k=2∨k=3∨k=6)
def hC (k:Int):Bool:=decide (k=7)
def hP (k:Int):Bool:=decide (k=5)
def hL (k:Int):Bool:=decide (k=8)
theorem zjM (k:Int):k=1∨k=2∨k=3∨k=4∨k=5∨k=6∨k=7∨k=8∨(¬k=1∧¬k=2∧¬k=3∧¬k=4∧¬k=5∧¬k=6∧¬k=7∧¬k=8):=by omega
theorem zfX (k:Int):(zM (l5P k) 115=hS k∧zM (l5P k) 102=hF k∧zM (l5P k) 122=hZ k∧zM (l5P k) 114=hR k∧zM (l5P k) 99=hC k∧zM (l5P k) 112=hP k∧zM (l5P k) 108=hL k)∧
  (zM (l5H k) 115=hS k∧zM (l5H k) 102=hF k∧zM (l5H k) 110=hZ k∧zM (l5H k) 114=hR k∧zM (l5H k) 99=hC k∧zM (l5H k) 112=hP k∧zM (l5H k) 108=hL k):=by
 rcases zjM k with rfl | rfl | rfl | rfl | rfl | rfl | rfl | rfl | ⟨h1,h2,h3,h4,h5,h6,h7,h8⟩
 iterate 8 exact ⟨⟨rfl,rfl,rfl,rfl,rfl,rfl,rfl⟩,⟨rfl,rfl,rfl,rfl,rfl,rfl,rfl⟩⟩
 have e1:l5P k=⟨#[]⟩:=by simp [l5P,h1,h2,h3,h4,h5,h6,h7,h8]
 have e2:l5H k=⟨#[]⟩:=by simp [l5H,h1,h2,h3,h4,h5,h6,h7,h8]
 rw [e1,e2]
 simp [hS,hF,hZ,hR,hC,hP,hL,h1,h2,h3,h4,h5,h6,h7,h8,zM,zfQ]
def dig0:MDig:=⟨0,0,0,0⟩
def zy (m:MMsg):Bool:=mIn m.kind 1 8&&(xK (hS m.kind) m.session 1 1000000&&(xK (hF m.kind) m.from_ 0 256&&(xK (hZ m.kind) m.size 0 256&&((hR m.kind||qS m.root dig0)&&(xK (hC m.kind) m.count 1 8&&(xK (hP m.kind) m.proof.length 0 16&&(xK (hL m.kind) m.leaves.length 0 8&&zq m.leaves)))))))
def MMsg.roC (m:MMsg):List AV:=[vI m.kind,vI m.session,vI m.from_,vI m.size,vU m.root.a,vU m.root.b,vU m.root.c,vU m.root.d,vI m.count,.ro 4 (m.proof.map MDig.cs),.ro 1 (m.leaves.map zs)]
attribute [go_sem] MMsg.roC
theorem zrl (m:MMsg) (hl:m.leaves.length≤maxLen):CallR Tryz.prog 183 [m.ro] (vB (zy m)) []:=by
 refine zj zqZ false Tryz.f183 ?_
 conv=>enter [1];reduce
 refine jvR Tryz.f183 75 [.tmp 2] (by kernel_rfl) (by decide +kernel) rfl ?_
 simp -implicitDefEqProofs only [go_sem]
 refine zU (fun k s=>∃i:Nat,i≤m.leaves.length∧k=m.leaves.length - i∧zq (m.leaves.drop i)=zq m.leaves∧s=⟨75,[(1,.ptr 1 0 [] 11 0 0),(3,vI m.kind),(9,.ro 1 (m.leaves.map zs)),(10,vI m.leaves.length),(11,vI i)],[(1,0,one ⟨11,[m.roC],0,false⟩)],1⟩) m.leaves.length ?_ ?_
 ·simp -implicitDefEqProofs only [go_sem]
  exact ⟨0,Nat.zero_le _,rfl,rfl,rfl⟩
 ·rintro k s ⟨i,hi,rfl,hx,rfl⟩
  rcases Nat.lt_or_ge i m.leaves.length with hlt | hge
  ·have hlt':(i:Int)<(m.leaves.length:Int):=by omega
   have hg:m.leaves[i]?=some m.leaves[i]:=List.getElem?_eq_getElem hlt
   have hw:=zB hlt hl
   rw [qD hlt] at hx
   simp -implicitDefEqProofs only [go_sem,hlt',hg]
   refine zi (fun h=>?_) (fun h=>?_)
   ·have h3:¬m.leaves[i].size≤40:=by have:=of_decide_eq_true h;omega
    simp -implicitDefEqProofs only [go_sem,h]
    have hx':zq m.leaves=false:=by rw [←hx];simp [h3]
    simp [zy,hx']
   ·have h3:m.leaves[i].size≤40:=by have:=of_decide_eq_false h;omega
    simp -implicitDefEqProofs only [go_sem,h,hw]
    refine ⟨_,by omega,i+1,hlt,rfl,?_,rfl⟩
    rw [←hx]
    simp [h3]
  ·have hi:i=m.leaves.length:=by omega
   subst hi
   have hlt':¬((m.leaves.length:Int)<(m.leaves.length:Int)):=by omega
   rw [List.drop_length] at hx
   have hx':zq m.leaves=true:=hx.symm
   obtain ⟨e1,e2,e3,e4,e5,e6,e7⟩:=(zfX m.kind).1
   simp -implicitDefEqProofs only [go_sem,hlt']
   repeat' first | (refine Want.intro (by first | exact qq _ _ _ | exact xO m.kind 115 | exact xO m.kind 102 | exact xO m.kind 122 | exact xO m.kind 114 | exact xO m.kind 99 | exact xO m.kind 112 | exact xO m.kind 108 | exact zmE _ _ _ _) ?_;try simp -implicitDefEqProofs only [go_sem,e1,e2,e3,e4,e5,e6,e7]) | (refine WantM.intro (by first | exact qq _ _ _ | exact xO m.kind 115 | exact xO m.kind 102 | exact xO m.kind 122 | exact xO m.kind 114 | exact xO m.kind 99 | exact xO m.kind 112 | exact xO m.kind 108 | exact zmE _ _ _ _) ?_;try simp -implicitDefEqProofs only [go_sem,e1,e2,e3,e4,e5,e6,e7]) | (refine zm (fun h=>?_) (fun h=>?_)<;>try simp -implicitDefEqProofs only [go_sem,e1,e2,e3,e4,e5,e6,e7,h]) | (refine zi (fun h=>?_) (fun h=>?_)<;>try simp -implicitDefEqProofs only [go_sem,e1,e2,e3,e4,e5,e6,e7,h])
   all_goals simp_all [zy,dig0,qS]
   all_goals trace_state
theorem zlA:l5H 1=⟨#[115]⟩∧l5H 2=⟨#[115,110,114]⟩∧l5H 3=⟨#[115,110,114]⟩∧l5H 4=⟨#[102,110]⟩∧l5H 5=⟨#[102,110,112]⟩∧l5H 6=⟨#[115,110,114]⟩∧l5H 7=⟨#[102,99]⟩∧l5H 8=⟨#[102,108]⟩:=⟨rfl,rfl,rfl,rfl,rfl,rfl,rfl,rfl⟩
theorem zcq:(hS 1=true∧hS 2=true∧hS 3=true∧hS 4=false∧hS 5=false∧hS 6=true∧hS 7=false∧hS 8=false)∧(hF 1=false∧hF 2=false∧hF 3=false∧hF 4=true∧hF 5=true∧hF 6=false∧hF 7=true∧hF 8=true)∧(hZ 1=false∧hZ 2=true∧hZ 3=true∧hZ 4=true∧hZ 5=true∧hZ 6=true∧hZ 7=false∧hZ 8=false)∧(hR 1=false∧hR 2=true∧hR 3=true∧hR 4=false∧hR 5=false∧hR 6=true∧hR 7=false∧hR 8=false)∧(hC 1=false∧hC 2=false∧hC 3=false∧hC 4=false∧hC 5=false∧hC 6=false∧hC 7=true∧hC 8=false)∧(hP 1=false∧hP 2=false∧hP 3=false∧hP 4=false∧hP 5=true∧hP 6=false∧hP 7=false∧hP 8=false)∧(hL 1=false∧hL 2=false∧hL 3=false∧hL 4=false∧hL 5=false∧hL 6=false∧hL 7=false∧hL 8=true):=by decide
theorem xz:mIn 1 1 8=true∧mIn 2 1 8=true∧mIn 3 1 8=true∧mIn 4 1 8=true∧mIn 5 1 8=true∧mIn 6 1 8=true∧mIn 7 1 8=true∧mIn 8 1 8=true:=by decide
theorem ze1 (a:UInt8) (l:List UInt8):((a::l)==([]:List UInt8))=false:=rfl
theorem zgf:(([]:List UInt8)==[])=true:=rfl
attribute [go_sem] ze1 zgf zlA jz tl_1 tl_2 zpK
theorem c75_c (m:MMsg) (hl:m.leaves.length≤maxLen):CallR Tryz.prog 75 [m.ro] (vB (zy m)) []:=by
 refine zj zqZ false Tryz.f75 ?_
 conv=>enter [1];reduce
 refine jvR Tryz.f75 127 [.tmp 2] (by kernel_rfl) (by decide +kernel) rfl ?_
 obtain ⟨k,se,fr,si,ro,co,pr,le⟩:=m
 simp -implicitDefEqProofs only [go_sem]
 refine Want.intro (zlX k) ?_
 rcases zjM k with rfl | rfl | rfl | rfl | rfl | rfl | rfl | rfl | ⟨h1,h2,h3,h4,h5,h6,h7,h8⟩
 case inr.inr.inr.inr.inr.inr.inr.inr=>
  have e2:l5H k=⟨#[]⟩:=by simp [l5H,h1,h2,h3,h4,h5,h6,h7,h8]
  simp -implicitDefEqProofs only [go_sem,e2,zb]
  have:mIn k 1 8=false:=by simp [mIn];omega
  simp [zy,this]
 all_goals simp -implicitDefEqProofs only [go_sem,zb,za]
 all_goals repeat' first | (refine Want.intro (by first | exact zao _ _ _ | exact zh _ 115 (by decide) | exact zh _ 102 (by decide) | exact zh _ 110 (by decide) | exact zh _ 114 (by decide) | exact zh _ 99 (by decide) | exact zh _ 112 (by decide) | exact zh _ 108 (by decide) | exact zmM le hl) ?_;try simp -implicitDefEqProofs only [go_sem,zb,za]) | (refine WantM.intro (by first | exact zao _ _ _ | exact zh _ 115 (by decide) | exact zh _ 102 (by decide) | exact zh _ 110 (by decide) | exact zh _ 114 (by decide) | exact zh _ 99 (by decide) | exact zh _ 112 (by decide) | exact zh _ 108 (by decide) | exact zmM le hl) ?_;try simp -implicitDefEqProofs only [go_sem,zb,za]) | (refine zm (fun h=>?_) (fun h=>?_)<;>try simp -implicitDefEqProofs only [go_sem,zb,za,h]) | (refine zi (fun h=>?_) (fun h=>?_)<;>try simp -implicitDefEqProofs only [go_sem,zb,za,h])
 all_goals simp_all [zy,dig0,qS,xK,zcq,xz]
 all_goals first
  | (intros;subst_vars;simp_all;done)
  | (cases le<;>simp_all [zq];done)
  | (cases hlo:zq le<;>simp_all [mIn]<;>intros<;>first | omega | (intro e;subst e;simp_all [zq];done) | (subst_vars;simp_all [zq];done))
end Go.Proofs.YtpjpkmhaffmbmaaGreat.E
end
section
namespace Go.Proofs.YtpjpkmhaffmbmaaGreat.E
open Go Go.RowKit
set_option maxHeartbeats 4000000
set_option maxRecDepth 10000
set_option linter.unusedSimpArgs false
set_option linter.unusedVariables false
set_option linter.unusedSectionVars false
def dcD12:Dec:=⟨[],[9,10,11],[22,30,37,38,39,40,49,56,76,80,87,141,143,159,237,250,259],false⟩
def MDig.bl (d:MDig):List UInt8:=d.bk 4
def bK (m:MMsg):List UInt8:=low m.kind.toNat 1
def bS (m:MMsg):List UInt8:=low m.session.toNat 3
def bF (m:MMsg):List UInt8:=low m.from_.toNat 2
def bZ (m:MMsg):List UInt8:=low m.size.toNat 2
def bC (m:MMsg):List UInt8:=low m.count.toNat 1
def xG (l:List MDig):List UInt8:=l.flatMap MDig.bl
def zad (s:ByteArray):List UInt8:=low s.size 1++s.data.toList
def yo (l:List ByteArray):List UInt8:=l.flatMap zad
def bP (m:MMsg):List UInt8:=low m.proof.length 1++xG m.proof
def bL_ (m:MMsg):List UInt8:=low m.leaves.length 1++yo m.leaves
def wbL (m:MMsg):List UInt8:=
 if m.kind=1 then bK m++bS m
 else if m.kind=2∨m.kind=3∨m.kind=6 then bK m++bS m++bZ m++m.root.bl
 else if m.kind=4 then bK m++bF m++bZ m
 else if m.kind=5 then bK m++bF m++bZ m++bP m
 else if m.kind=7 then bK m++bF m++bC m
 else bK m++bF m++bL_ m
def bA (l:List UInt8):ByteArray:=⟨l.toArray⟩
theorem zQ (l:List UInt8):(bA l).size=l.length:=by simp [bA,ByteArray.size]
theorem zda {a b:ByteArray} (h:a.data.toList=b.data.toList):a=b:=ByteArray.ext (Array.toList_inj.1 h)
theorem wJ (a b:List UInt8):bA a++bA b=bA (a++b):=zda (by simp [bA,ByteArray.data_append])
theorem zl1 (s:ByteArray):s=bA s.data.toList:=zda (by simp [bA])
theorem xH (l:List UInt8):(bA l).data.toList=l:=by simp [bA]
theorem bA_nil:(⟨#[]⟩:ByteArray)=bA []:=rfl
theorem zdo (v n:Nat):qZ v n=bA (low v n):=zda (by rw [zaW];simp [bA])
theorem zdM (d:MDig):d.bytes=bA d.bl:=by rw [d.bytes_bk];rfl
theorem xi (d:MDig):d.bl.length=32:=d.bk_len (Nat.le_refl 4)
def zF (m:MMsg):ByteArray:=if zy m then bA (wbL m) else ⟨#[]⟩
theorem zjL (v:Int) (h:0≤v∧v≤1000000000):CallR Tryz.prog 76 [vI v,vI 1] (vS (bA (low v.toNat 1))) []:=by
 have:=zlV 1 v.toNat (by omega) (by omega)
 rw [Int.toNat_of_nonneg h.1,zdo] at this
 exact this
theorem zmx (v:Int) (h:0≤v∧v≤1000000000):CallR Tryz.prog 76 [vI v,vI 2] (vS (bA (low v.toNat 2))) []:=by
 have:=zlV 2 v.toNat (by omega) (by omega)
 rw [Int.toNat_of_nonneg h.1,zdo] at this
 exact this
theorem zmw (v:Int) (h:0≤v∧v≤1000000000):CallR Tryz.prog 76 [vI v,vI 3] (vS (bA (low v.toNat 3))) []:=by
 have:=zlV 3 v.toNat (by omega) (by omega)
 rw [Int.toNat_of_nonneg h.1,zdo] at this
 exact this
theorem zlF (d:MDig) (h:d.ok):CallR Tryz.prog 77 [.agg d.cs] (vS (bA d.bl)) []:=by
 have:=zq8 d h
 rw [zdM] at this
 exact this
theorem ql {h:Bool} {x lo hi:Int} (h1:xK h x lo hi=true) (h2:0≤lo) (h3:0≤hi):0≤x∧x≤hi:=by
 cases h with
 | false=>have:x=0:=by simpa [xK] using h1
          omega
 | true=>have:lo≤x∧x≤hi:=by simpa [xK,mIn] using h1
         omega
structure WOk (m:MMsg):Prop where
 k:mIn m.kind 1 8=true
 s:0≤m.session∧m.session≤1000000
 f:0≤m.from_∧m.from_≤256
 z:0≤m.size∧m.size≤256
 c:0≤m.count∧m.count≤8
 p:m.proof.length≤16
 l:m.leaves.length≤8
 lo:zq m.leaves=true
theorem WOk.of {m:MMsg} (h:zy m=true):WOk m:=by
 simp only [zy,Bool.and_eq_true] at h
 obtain ⟨h0,hs,hf,hz,hr,hc,hp,hl,hlo⟩:=h
 have hp':=ql hp (by omega) (by omega)
 have hl':=ql hl (by omega) (by omega)
 exact ⟨h0,ql hs (by omega) (by omega),ql hf (by omega) (by omega),ql hz (by omega) (by omega),ql hc (by omega) (by omega),by omega,by omega,hlo⟩
attribute [go_sem] wJ zQ
theorem wC {α:Type} (f:α→List UInt8) {l:List α} {i:Nat} (h:i<l.length):(l.take (i+1)).flatMap f=(l.take i).flatMap f++f l[i]:=by
 rw [List.take_succ_eq_append_getElem h,List.flatMap_append]
 simp
theorem wG (l:List MDig):(xG l).length=32 * l.length:=by
 induction l with
 | nil=>rfl
 | cons a l ih=>simp only [xG,List.flatMap_cons,List.length_append,xi,List.length_cons] at *;omega
theorem jp (l:List ByteArray) (h:zq l=true):(yo l).length≤41 * l.length:=by
 induction l with
 | nil=>exact Nat.zero_le _
 | cons a l ih=>
  simp only [zq,List.all_cons,Bool.and_eq_true,decide_eq_true_eq] at h
  have:=ih h.2
  have e:a.data.toList.length=a.size:=Array.length_toList
  simp only [yo,zad,List.flatMap_cons,List.length_append,List.length_cons,zP,e] at *
  omega
theorem wr {l:List ByteArray} (h:zq l=true) (i:Nat):zq (l.take i)=true:=by
 simp only [zq,List.all_eq_true] at *
 exact fun x hx=>h x (List.mem_of_mem_take hx)
theorem zaC {l:List ByteArray} (h:zq l=true) {i:Nat} (hi:i<l.length):l[i].size≤40:=by
 simp only [zq,List.all_eq_true,decide_eq_true_eq] at h
 exact h _ (List.getElem_mem hi)
theorem zoq (m:MMsg) (hp:m.proof.length≤maxLen) (hl:m.leaves.length≤maxLen) (hr:m.root.ok) (hd:∀d∈m.proof,d.ok):CallR Tryz.prog 23 [m.ro] (vS (zF m)) []:=by
 refine zj dcD12 false Tryz.f23 ?_
 conv=>enter [1];reduce
 refine jvR Tryz.f23 105 [.tmp 2] (by kernel_rfl) (by decide +kernel) rfl ?_
 simp -implicitDefEqProofs only [go_sem]
 refine Want.intro (c75_c m hl) ?_
 simp -implicitDefEqProofs only [go_sem]
 refine zi (fun h=>?_) (fun h=>?_)
 ·have h':zy m=false:=by simpa using h
  simp -implicitDefEqProofs only [go_sem,h]
  simp [zF,h']
 ·have h':zy m=true:=by simpa using h
  have hk:=WOk.of h'
  rw [zF,if_pos h']
  simp -implicitDefEqProofs only [go_sem,h]
  clear h h'
  obtain ⟨k,se,fr,si,ro,co,pr,le⟩:=m
  obtain ⟨k0,ks,kf,kz,kc,kp,kl,klo⟩:=hk
  simp only at k0 ks kf kz kc kp kl klo hr hd
  refine Want.intro (zlX k) ?_
  rcases zjM k with rfl | rfl | rfl | rfl | rfl | rfl | rfl | rfl | ⟨h1,h2,h3,h4,h5,h6,h7,h8⟩
  case inr.inr.inr.inr.inr.inr.inr.inr=>simp [mIn] at k0;omega
  all_goals simp -implicitDefEqProofs only [go_sem,zb,za]
  all_goals repeat' first | (refine Want.intro (by first | exact zh _ 115 (by decide) | exact zh _ 102 (by decide) | exact zh _ 110 (by decide) | exact zh _ 114 (by decide) | exact zh _ 99 (by decide) | exact zh _ 112 (by decide) | exact zh _ 108 (by decide) | exact zjL _ (by omega) | exact zmx _ (by omega) | exact zmw _ (by omega) | exact zlF ro hr) ?_;try simp -implicitDefEqProofs only [go_sem,zb,za,zP,xi,List.length_append,Int.cast_ofNat_Int,Int.reduceGT]) | (refine WantM.intro (by first | exact zh _ 115 (by decide) | exact zh _ 102 (by decide) | exact zh _ 110 (by decide) | exact zh _ 114 (by decide) | exact zh _ 99 (by decide) | exact zh _ 112 (by decide) | exact zh _ 108 (by decide) | exact zjL _ (by omega) | exact zmx _ (by omega) | exact zmw _ (by omega) | exact zlF ro hr) ?_;try simp -implicitDefEqProofs only [go_sem,zb,za,zP,xi,List.length_append,Int.cast_ofNat_Int,Int.reduceGT]) | (refine zm (fun h=>?_) (fun h=>?_)<;>try simp -implicitDefEqProofs only [go_sem,zb,za,zP,xi,List.length_append,Int.cast_ofNat_Int,Int.reduceGT,h]) | (refine zi (fun h=>?_) (fun h=>?_)<;>try simp -implicitDefEqProofs only [go_sem,zb,za,zP,xi,List.length_append,Int.cast_ofNat_Int,Int.reduceGT,h])
  all_goals try (simp [wbL,bK,bS,bF,bZ,bC];done)
  ·have hpl:(low 5 1++low fr.toNat 2++low si.toNat 2++low pr.length 1).length=6:=by simp [zP]
   have hW:wbL ⟨5,se,fr,si,ro,co,pr,le⟩=(low 5 1++low fr.toNat 2++low si.toNat 2++low pr.length 1)++xG pr:=by simp [wbL,bK,bF,bZ,bP]
   rw [hW]
   generalize low 5 1++low fr.toNat 2++low si.toNat 2++low pr.length 1=pre at *
   refine zU (fun n z=>∃i:Nat,i≤pr.length∧n=pr.length - i∧z=⟨105,[(1,.ptr 1 0 [] 11 0 0),(3,vS ⟨#[102,110,112]⟩),(4,vS (bA (pre++xG (pr.take i)))),(5,vI i)],[(1,0,one ⟨11,[(MMsg.mk 5 se fr si ro co pr le).roC],0,false⟩)],1⟩) pr.length ?_ ?_
   ·simp -implicitDefEqProofs only [go_sem]
    exact ⟨0,Nat.zero_le _,rfl,by simp [xG]⟩
   ·rintro n z ⟨i,hi,rfl,rfl⟩
    rcases Nat.lt_or_ge i pr.length with hlt | hge
    ·have hlt':(i:Int)<(pr.length:Int):=by omega
     have hg:pr[i]?=some pr[i]:=List.getElem?_eq_getElem hlt
     have hw:=zB hlt hp
     have hft:=wC MDig.bl hlt
     have hdl:=wG (pr.take i)
     rw [List.length_take] at hdl
     have hsz:¬(((pre.length+(xG (pr.take i)).length+32:Nat):Int)>9223372036854775807):=by omega
     simp -implicitDefEqProofs only [go_sem,hlt',hg]
     refine Want.intro (zlF pr[i] (hd _ (List.getElem_mem hlt))) ?_
     simp -implicitDefEqProofs only [go_sem,hw,xi,List.length_append,hsz]
     refine ⟨_,by omega,i+1,hlt,rfl,?_⟩
     rw [xG,xG,hft,List.append_assoc]
    ·have hi:i=pr.length:=by omega
     subst hi
     have hlt':¬((pr.length:Int)<(pr.length:Int)):=by omega
     simp -implicitDefEqProofs only [go_sem,hlt']
     refine Want.intro (zh _ 108 (by decide)) ?_
     simp -implicitDefEqProofs only [go_sem,za,List.take_length]
  ·have hpl:(low 8 1++low fr.toNat 2++low le.length 1).length=4:=by simp [zP]
   have hW:wbL ⟨8,se,fr,si,ro,co,pr,le⟩=(low 8 1++low fr.toNat 2++low le.length 1)++yo le:=by simp [wbL,bK,bF,bZ,bL_]
   rw [hW]
   generalize low 8 1++low fr.toNat 2++low le.length 1=pre at *
   refine zU (fun n z=>∃i:Nat,i≤le.length∧n=le.length - i∧z=⟨105,[(1,.ptr 1 0 [] 11 0 0),(4,vS (bA (pre++yo (le.take i)))),(6,vI i)],[(1,0,one ⟨11,[(MMsg.mk 8 se fr si ro co pr le).roC],0,false⟩)],1⟩) le.length ?_ ?_
   ·simp -implicitDefEqProofs only [go_sem]
    exact ⟨0,Nat.zero_le _,rfl,by simp [yo]⟩
   ·rintro n z ⟨i,hi,rfl,rfl⟩
    rcases Nat.lt_or_ge i le.length with hlt | hge
    ·have hlt':(i:Int)<(le.length:Int):=by omega
     have hg:le[i]?=some le[i]:=List.getElem?_eq_getElem hlt
     have hw:=zB hlt hl
     have hft:=wC zad hlt
     have hdl:=jp (le.take i) (wr klo i)
     rw [List.length_take] at hdl
     have h40:=zaC klo hlt
     have e:le[i].data.toList.length=le[i].size:=Array.length_toList
     have hsz:¬(((pre.length+(yo (le.take i)).length+1:Nat):Int)>9223372036854775807):=by omega
     have hsz2:¬(((pre.length+(yo (le.take i)).length+1+le[i].size:Nat):Int)>9223372036854775807):=by omega
     have hof:=zl1 le[i]
     simp -implicitDefEqProofs only [go_sem,hlt',hg]
     refine Want.intro (zjL _ (by omega)) ?_
     simp -implicitDefEqProofs only [go_sem,hw,zP,List.length_append,hsz,hsz2]
     refine ⟨_,by omega,i+1,hlt,rfl,?_⟩
     have e3:∀p,bA (p++(low le[i].size 1++le[i].data.toList))=bA (p++low le[i].size 1)++le[i]:=by
      intro p
      rw [←List.append_assoc,←wJ,←zl1]
     rw [yo,yo,hft,zad,←List.append_assoc,e3]
    ·have hi:i=le.length:=by omega
     subst hi
     have hlt':¬((le.length:Int)<(le.length:Int)):=by omega
     simp -implicitDefEqProofs only [go_sem,hlt',List.take_length]
end Go.Proofs.YtpjpkmhaffmbmaaGreat.E
end
section
namespace Go.Proofs.YtpjpkmhaffmbmaaGreat.E
open Go Go.RowKit
set_option maxHeartbeats 4000000
set_option maxRecDepth 10000
set_option linter.unusedSimpArgs false
set_option linter.unusedVariables false
set_option linter.unusedSectionVars false
def zqY:Dec:=⟨[],[9,10,11],[22,30,37,38,39,40,49,56,76,80,87,141,143,159,237,250,259],false⟩
def bOf (m:MMsg) (c:Nat):List UInt8:=match c with
 | 115=>bS m
 | 102=>bF m
 | 122=>bZ m
 | 114=>m.root.bl
 | 99=>bC m
 | 112=>bP m
 | 108=>bL_ m
 | _=>[]
theorem zoB {m:MMsg} (h:WOk m) (c:Nat):(bOf m c).length≤600:=by
 have h1:=wG m.proof
 have h2:=jp m.leaves h.lo
 have h3:=h.p
 have h4:=h.l
 unfold bOf
 split<;>simp only [bS,bF,bZ,bC,bP,bL_,zP,xi,List.length_append,List.length_nil]<;>omega
def obl (m:MMsg) (pos:Nat):List UInt8:=bK m++((l5P m.kind).data.toList.take pos).flatMap fun b=>bOf m b.toNat
theorem znt {m:MMsg} (h:WOk m) (pos:Nat):(obl m pos).length≤1+600 * pos:=by
 unfold obl
 have:∀l:List UInt8,(l.flatMap fun b=>bOf m b.toNat).length≤600 * l.length:=by
  intro l
  induction l with
  | nil=>exact Nat.zero_le _
  | cons a l ih=>
   have:=zoB h a.toNat
   simp only [List.flatMap_cons,List.length_append,List.length_cons]
   omega
 have h1:=this ((l5P m.kind).data.toList.take pos)
 have h2:((l5P m.kind).data.toList.take pos).length≤pos:=List.length_take_le _ _
 rw [List.length_append,bK,zP]
 omega
theorem znu {m:MMsg} (h:mIn m.kind 1 8=true):obl m (l5P m.kind).size=wbL m:=by
 obtain ⟨k,se,fr,si,ro,co,pr,le⟩:=m
 rcases zjM k with rfl | rfl | rfl | rfl | rfl | rfl | rfl | rfl | ⟨h1,h2,h3,h4,h5,h6,h7,h8⟩
 case inr.inr.inr.inr.inr.inr.inr.inr=>simp [mIn] at h;omega
 all_goals simp [obl,wbL,l5P,bOf,ByteArray.size]
theorem nb1 (v:Int) (h:0≤v∧v≤1000000000):CallR Tryz.prog 198 [vI v,vI 1] (.blk 0 0 [] 1 0 (low v.toNat 1).length) [([],⟨1,(low v.toNat 1).map zt,2,false⟩)]:=by
 have:=zkk v.toNat 1 (by omega) (by omega)
 rw [Int.toNat_of_nonneg h.1] at this
 rw [zP]
 exact this
theorem nb2 (v:Int) (h:0≤v∧v≤1000000000):CallR Tryz.prog 198 [vI v,vI 2] (.blk 0 0 [] 1 0 (low v.toNat 2).length) [([],⟨1,(low v.toNat 2).map zt,2,false⟩)]:=by
 have:=zkk v.toNat 2 (by omega) (by omega)
 rw [Int.toNat_of_nonneg h.1] at this
 rw [zP]
 exact this
theorem nb3 (v:Int) (h:0≤v∧v≤1000000000):CallR Tryz.prog 198 [vI v,vI 3] (.blk 0 0 [] 1 0 (low v.toNat 3).length) [([],⟨1,(low v.toNat 3).map zt,2,false⟩)]:=by
 have:=zkk v.toNat 3 (by omega) (by omega)
 rw [Int.toNat_of_nonneg h.1] at this
 rw [zP]
 exact this
attribute [go_sem] xH
theorem zmy (d:MDig):CallR Tryz.prog 199 [.agg d.cs] (vS (bA d.bl)) []:=by
 have:=zmD d
 rw [zdM] at this
 exact this
theorem zkz {A B:List UInt8} (h:A.length+B.length≤100000):(A.map zt++B.map zt).length≤maxLen∧(A.map zt++B.map zt).length * 1≤140737488355328:=by
 unfold maxLen
 simp only [List.length_append,List.length_map]
 omega
theorem zoG {A B C:List UInt8} (h:A.length+B.length+C.length≤100000):(A.map zt++B.map zt++C.map zt).length≤maxLen∧(A.map zt++B.map zt++C.map zt).length * 1≤140737488355328:=by
 unfold maxLen
 simp only [List.length_append,List.length_map]
 omega
theorem zrk (m:MMsg) (hok:zy m=true):CallR Tryz.prog 184 [m.ro] (vS (bA (wbL m))) []:=by
 refine zj zqY false Tryz.f184 ?_
 conv=>enter [1];reduce
 refine jvR Tryz.f184 103 [.tmp 2] (by kernel_rfl) (by decide +kernel) rfl ?_
 have hk:=WOk.of hok
 obtain ⟨n,hn,hn8⟩:∃n:Nat,m.kind=n∧(1≤n∧n≤8):=by
  have h0:=hk.k
  have:1≤m.kind∧m.kind≤8:=by simpa [mIn] using h0
  exact ⟨m.kind.toNat,by omega,by omega⟩
 have hlet:=@letters n hn8
 rw [←hn] at hlet
 simp -implicitDefEqProofs only [go_sem]
 refine Want.intro (zgI m.kind) ?_
 simp -implicitDefEqProofs only [go_sem]
 refine zef (l5P m.kind) [1,3,17] [] (fun r pos z=>pos≤(l5P m.kind).size∧z=⟨103,[(1,.ptr 1 0 [] 11 0 0),(3,.blk 3 0 [] 1 0 (obl m pos).length),(17,.it r)],[(1,0,one ⟨11,[m.roC],0,false⟩),(3,0,one ⟨1,(obl m pos).map zt,2,false⟩)],1⟩) ?_ ?_ ?_ ?_ ?_ ?_
 ·rfl
 ·omega
 ·intro r
  simp -implicitDefEqProofs only [go_sem]
  have h0:obl m 0=[UInt8.ofNat (n%256)]:=by simp [obl,bK,hn,low]
  have h1:IntKind.u8.wrap m.kind=((n%256:Nat):Int):=by rw [hn,zgu]
  refine ⟨Nat.zero_le _,?_⟩
  rw [h0,h1]
  simp [zt]
 ·rintro r pos z ⟨-,rfl⟩
  exact ⟨rfl,rfl⟩
 ·rintro r pos z ⟨hle,rfl⟩ hlt
  obtain ⟨hp2,c,hd,htk,huc,hc⟩:=hlet hlt
  have hO:obl m (pos+1)=obl m pos++bOf m c:=by
   rw [obl,htk,List.flatMap_append,←List.append_assoc]
   simp [obl,huc]
  have hol:=znt hk pos
  refine ⟨c,hd,?_⟩
  rcases hc with rfl | rfl | rfl | rfl | rfl | rfl | rfl
  ·have hcc:((115:Nat):Int)=115:=rfl
   have hs:=hk.s
   simp -implicitDefEqProofs only [go_sem,hcc]
   refine Want.intro (nb3 m.session (by omega)) ?_
   have ha:=zH (E:=zt) (l:=obl m pos) (xs:=(low m.session.toNat 3).map zt) (b:=1) (n:=100000) (by simp [zP];omega) (by omega) (by omega)
   simp -implicitDefEqProofs only [go_sem,ha]
   exact ⟨hlt,by rw [hO];simp [bOf,bS,bF,bZ,bC]⟩
  ·have hcc:((102:Nat):Int)=102:=rfl
   have hs:=hk.f
   simp -implicitDefEqProofs only [go_sem,hcc]
   refine Want.intro (nb2 m.from_ (by omega)) ?_
   have ha:=zH (E:=zt) (l:=obl m pos) (xs:=(low m.from_.toNat 2).map zt) (b:=1) (n:=100000) (by simp [zP];omega) (by omega) (by omega)
   simp -implicitDefEqProofs only [go_sem,ha]
   exact ⟨hlt,by rw [hO];simp [bOf,bS,bF,bZ,bC]⟩
  ·have hcc:((122:Nat):Int)=122:=rfl
   have hs:=hk.z
   simp -implicitDefEqProofs only [go_sem,hcc]
   refine Want.intro (nb2 m.size (by omega)) ?_
   have ha:=zH (E:=zt) (l:=obl m pos) (xs:=(low m.size.toNat 2).map zt) (b:=1) (n:=100000) (by simp [zP];omega) (by omega) (by omega)
   simp -implicitDefEqProofs only [go_sem,ha]
   exact ⟨hlt,by rw [hO];simp [bOf,bS,bF,bZ,bC]⟩
  ·have hcc:((114:Nat):Int)=114:=rfl
   simp -implicitDefEqProofs only [go_sem,hcc]
   refine Want.intro (zmy m.root) ?_
   have ha:=zH (E:=zt) (l:=obl m pos) (xs:=m.root.bl.map zt) (b:=1) (n:=100000) (by simp [xi];omega) (by omega) (by omega)
   simp -implicitDefEqProofs only [go_sem,ha]
   exact ⟨hlt,by rw [hO];simp [bOf]⟩
  ·have hcc:((99:Nat):Int)=99:=rfl
   have hs:=hk.c
   simp -implicitDefEqProofs only [go_sem,hcc]
   refine Want.intro (nb1 m.count (by omega)) ?_
   have ha:=zH (E:=zt) (l:=obl m pos) (xs:=(low m.count.toNat 1).map zt) (b:=1) (n:=100000) (by simp [zP];omega) (by omega) (by omega)
   simp -implicitDefEqProofs only [go_sem,ha]
   exact ⟨hlt,by rw [hO];simp [bOf,bS,bF,bZ,bC]⟩
  ·have hcc:((112:Nat):Int)=112:=rfl
   have hs:=hk.p
   simp -implicitDefEqProofs only [go_sem,hcc]
   refine Want.intro (nb1 m.proof.length (by omega)) ?_
   have ha:=zH (E:=zt) (l:=obl m pos) (xs:=(low m.proof.length 1).map zt) (b:=1) (n:=100000) (by simp [zP];omega) (by omega) (by omega)
   simp -implicitDefEqProofs only [go_sem,ha]
   have hF:=fun i=>wG (m.proof.take i)
   have hwl:m.proof.length≤maxLen:=by unfold maxLen;omega
   refine zU (fun n z=>∃i:Nat,i≤m.proof.length∧n=m.proof.length - i∧z=⟨103,[(1,.ptr 1 0 [] 11 0 0),(3,.blk 3 0 [] 1 0 (obl m pos++low m.proof.length 1++xG (m.proof.take i)).length),(17,.it r),(66,.ro 4 (m.proof.map MDig.cs)),(67,vI m.proof.length),(68,vI i)],[(1,0,one ⟨11,[m.roC],0,false⟩),(3,0,one ⟨1,(obl m pos++low m.proof.length 1++xG (m.proof.take i)).map zt,2,false⟩)],1⟩) m.proof.length ?_ ?_
   ·simp -implicitDefEqProofs only [go_sem]
    exact ⟨0,Nat.zero_le _,rfl,by simp [xG]⟩
   ·rintro n z ⟨i,hi,rfl,rfl⟩
    rcases Nat.lt_or_ge i m.proof.length with hl | hge
    ·have hlt':(i:Int)<(m.proof.length:Int):=by omega
     have hg:m.proof[i]?=some m.proof[i]:=List.getElem?_eq_getElem hl
     have hw:=zB hl hwl
     have hFi:=hF i
     have hft:=wC MDig.bl hl
     have hlow:=zP m.proof.length 1
     have hbl:=xi m.proof[i]
     rw [List.length_take] at hFi
     have ha:=zkz (A:=obl m pos++low m.proof.length 1++xG (m.proof.take i)) (B:=m.proof[i].bl) (by simp only [List.length_append];omega)
     simp -implicitDefEqProofs only [go_sem,hlt',hg]
     refine Want.intro (zmy m.proof[i]) ?_
     simp -implicitDefEqProofs only [go_sem,hw,ha]
     refine ⟨_,by omega,i+1,hl,rfl,?_⟩
     rw [show xG (m.proof.take (i+1))=xG (m.proof.take i)++MDig.bl m.proof[i] from hft]
     simp []
    ·have hi:i=m.proof.length:=by omega
     subst hi
     have hlt':¬((m.proof.length:Int)<(m.proof.length:Int)):=by omega
     simp -implicitDefEqProofs only [go_sem,hlt',List.take_length]
     exact ⟨hlt,by rw [hO];simp [bOf,bP]⟩
  ·have hcc:((108:Nat):Int)=108:=rfl
   have hs:=hk.l
   simp -implicitDefEqProofs only [go_sem,hcc]
   refine Want.intro (nb1 m.leaves.length (by omega)) ?_
   have ha:=zH (E:=zt) (l:=obl m pos) (xs:=(low m.leaves.length 1).map zt) (b:=1) (n:=100000) (by simp [zP];omega) (by omega) (by omega)
   simp -implicitDefEqProofs only [go_sem,ha]
   have hF:=fun i=>jp (m.leaves.take i) (wr hk.lo i)
   have hwl:m.leaves.length≤maxLen:=by unfold maxLen;omega
   refine zU (fun n z=>∃i:Nat,i≤m.leaves.length∧n=m.leaves.length - i∧z=⟨103,[(1,.ptr 1 0 [] 11 0 0),(3,.blk 3 0 [] 1 0 (obl m pos++low m.leaves.length 1++yo (m.leaves.take i)).length),(17,.it r),(86,.ro 1 (m.leaves.map zs)),(87,vI m.leaves.length),(88,vI i)],[(1,0,one ⟨11,[m.roC],0,false⟩),(3,0,one ⟨1,(obl m pos++low m.leaves.length 1++yo (m.leaves.take i)).map zt,2,false⟩)],1⟩) m.leaves.length ?_ ?_
   ·simp -implicitDefEqProofs only [go_sem]
    exact ⟨0,Nat.zero_le _,rfl,by simp [yo]⟩
   ·rintro n z ⟨i,hi,rfl,rfl⟩
    rcases Nat.lt_or_ge i m.leaves.length with hl | hge
    ·have hlt':(i:Int)<(m.leaves.length:Int):=by omega
     have hg:m.leaves[i]?=some m.leaves[i]:=List.getElem?_eq_getElem hl
     have hw:=zB hl hwl
     have hFi:=hF i
     have hft:=wC zad hl
     have hlow:=zP m.leaves.length 1
     have h40:=zaC hk.lo hl
     have e:m.leaves[i].data.toList.length=m.leaves[i].size:=Array.length_toList
     have hl1:=zP m.leaves[i].size 1
     rw [List.length_take] at hFi
     have ha:=zkz (A:=obl m pos++low m.leaves.length 1++yo (m.leaves.take i)) (B:=low m.leaves[i].size 1) (by simp only [List.length_append];omega)
     have ha2:=zoG (A:=obl m pos++low m.leaves.length 1++yo (m.leaves.take i)) (B:=low m.leaves[i].size 1) (C:=m.leaves[i].data.toList) (by simp only [List.length_append];omega)
     simp -implicitDefEqProofs only [go_sem,hlt',hg]
     refine Want.intro (nb1 m.leaves[i].size (by omega)) ?_
     simp -implicitDefEqProofs only [go_sem,hw,ha,ha2]
     refine ⟨_,by omega,i+1,hl,rfl,?_⟩
     rw [show yo (m.leaves.take (i+1))=yo (m.leaves.take i)++zad m.leaves[i] from hft]
     simp [zad]
    ·have hi:i=m.leaves.length:=by omega
     subst hi
     have hlt':¬((m.leaves.length:Int)<(m.leaves.length:Int)):=by omega
     simp -implicitDefEqProofs only [go_sem,hlt',List.take_length]
     exact ⟨hlt,by rw [hO];simp [bOf,bL_]⟩
 ·rintro r pos z ⟨hle,rfl⟩ hge
  have hpos:pos=(l5P m.kind).size:=by omega
  subst hpos
  rw [←znu hk.k]
  simp -implicitDefEqProofs only [go_sem,xl]
  rfl
theorem zrr (m:MMsg) (hl:m.leaves.length≤maxLen):CallR Tryz.prog 153 [m.ro] (vS (zF m)) []:=by
 refine zj zqY false Tryz.f153 ?_
 conv=>enter [1];reduce
 refine jvR Tryz.f153 8 [.tmp 2] (by kernel_rfl) (by decide +kernel) rfl ?_
 simp -implicitDefEqProofs only [go_sem]
 refine Want.intro (zrl m hl) ?_
 simp -implicitDefEqProofs only [go_sem]
 refine zi (fun h=>?_) (fun h=>?_)
 ·have h':zy m=false:=by simpa using h
  simp -implicitDefEqProofs only [go_sem,h]
  simp [zF,h']
 ·have h':zy m=true:=by simpa using h
  simp -implicitDefEqProofs only [go_sem,h]
  refine Want.intro (zrk m h') ?_
  simp -implicitDefEqProofs only [go_sem]
  simp [zF,h']
end Go.Proofs.YtpjpkmhaffmbmaaGreat.E
end
section
namespace Go.Proofs.YtpjpkmhaffmbmaaGreat.E
open Go Go.RowKit
set_option maxHeartbeats 4000000
set_option maxRecDepth 10000
set_option linter.unusedSimpArgs false
set_option linter.unusedVariables false
set_option linter.unusedSectionVars false
def zdL:Dec:=⟨[(39,.cm [true,false]),(150,.cm [true])],[9,10,11],[22,30,37,38,39,40,49,56,76,80,87,141,143,159,237,250,259],false⟩
structure Dr where
 b:List UInt8
 p:Nat
def Dr.cs (r:Dr):List AV:=[.ro 1 (r.b.map zt),vI r.p]
def Dr.row (r:Dr):Sig:=[(1000000,0,one ⟨2,[r.cs],0,false⟩)]
attribute [go_sem] Dr.cs Dr.row
abbrev vD:AV:=.ptr 1000000 0 [] 2 0 0
def Dr.ok (r:Dr) (n:Nat):Prop:=r.b.length≤2000∧r.p≤n
theorem zrn (l:List UInt8) (hl:l.length≤maxLen):zS Tryz.prog 164 [] [.ro 1 (l.map zt)] (.ptr 0 0 [] 2 0 0) [(0,0,one ⟨2,[(Dr.mk (l.take 2000) 0).cs],0,false⟩)]:=by
 refine zj zdL false Tryz.f164 ?_
 conv=>enter [1];reduce
 refine jvM Tryz.f164 11 [.tmp 2] (by kernel_rfl) (by decide +kernel) rfl ?_
 simp -implicitDefEqProofs only [go_sem]
 refine zi (fun h=>?_) (fun h=>?_)
 ·have hlt:(2000:Int)≤(l.length:Int):=by have:=of_decide_eq_true h;omega
  simp -implicitDefEqProofs only [go_sem,h,hlt]
  try rfl
 ·have h':l.take 2000=l:=List.take_of_length_le (by have:=of_decide_eq_false h;omega)
  simp -implicitDefEqProofs only [go_sem,h,h']
  try rfl
theorem zhj {x y:Int} (hx:0≤x∧x<9223372036854775808) (hy:0≤y∧y<9223372036854775808):0≤zm8 .i64 x y:=by
 obtain ⟨a,rfl⟩:∃a:Nat,x=a:=⟨x.toNat,by omega⟩
 obtain ⟨b,rfl⟩:∃b:Nat,y=b:=⟨y.toNat,by omega⟩
 unfold zm8
 rw [show IntKind.i64.bits=64 from rfl,BitVec.ofInt_natCast,BitVec.ofInt_natCast,BitVec.toNat_xor,BitVec.toNat_ofNat,BitVec.toNat_ofNat,Nat.mod_eq_of_lt (by omega),Nat.mod_eq_of_lt (by omega)]
 have:a ^^^ b<2 ^ 63:=Nat.xor_lt_two_pow (by omega) (by omega)
 rw [wrS (by omega)]
 omega
def Dr.nx (r:Dr):Dr:=⟨r.b,r.p+1⟩
theorem nx_b (r:Dr):r.nx.b=r.b:=rfl
theorem zpX (r:Dr):r.nx.p=r.p+1:=rfl
attribute [go_sem] nx_b zpX
def pkX (r:Dr):Nat:=bL r.b (r.p%r.b.length) * 131+bL r.b ((r.p * 7+3)%r.b.length) * 1117+r.p * 29+r.p/r.b.length * 53
def pk (r:Dr) (n:Int):Int:=if n<1 then 0 else if r.b.length=0 then 0 else if r.p<r.b.length then (bL r.b r.p:Int).tmod n else (zm8 .i64 (pkX r:Int) ((pkX r/64:Nat):Int)).tmod n
theorem zax (r:Dr) (n:Int) (h:r.ok 1000000000):(0≤pk r n∧(pk r n<n∨n<1∧pk r n=0))∧zS Tryz.prog 39 r.row [vD,vI n] (vI (pk r n)) r.nx.row:=by
 obtain ⟨hb,hp⟩:=h
 have w1:IntKind.i64.wrap ((r.p:Int)+1)=((r.p+1:Nat):Int):=by rw [wrS (by omega)];omega
 have w2:IntKind.i64.wrap (((r.p+1:Nat):Int) - 1)=(r.p:Int):=by rw [wrS (by omega)];omega
 unfold pk
 by_cases h0:n<1
 ·rw [if_pos h0]
  refine ⟨by omega,?_⟩
  refine zj zdL false Tryz.f39 ?_
  conv=>enter [1];reduce
  refine jvM Tryz.f39 99 [.tmp 4] (by kernel_rfl) (by decide +kernel) rfl ?_
  simp -implicitDefEqProofs only [go_sem,w1,h0,zg,zb]
 ·rw [if_neg h0]
  by_cases h1:r.b.length=0
  ·rw [if_pos h1]
   refine ⟨by omega,?_⟩
   refine zj zdL false Tryz.f39 ?_
   conv=>enter [1];reduce
   refine jvM Tryz.f39 99 [.tmp 4] (by kernel_rfl) (by decide +kernel) rfl ?_
   have h2:(((0:Nat):Int)==0)=true:=rfl
   simp -implicitDefEqProofs only [go_sem,w1,h0,h1,h2,zf,zb]
  ·have h2:((r.b.length:Int)==0)=false:=by rw [beq_eq_false_iff_ne];omega
   rw [if_neg h1]
   by_cases h3:r.p<r.b.length
   ·rw [if_pos h3]
    have h4:(r.p:Int)<(r.b.length:Int):=by omega
    have hg:=xf (l:=r.b) (i:=r.p) h3
    have hbl:=zaR r.b r.p
    have w3:IntKind.i64.wrap (bL r.b r.p:Int)=(bL r.b r.p:Int):=wrS (by omega)
    have hn:¬n=0:=by omega
    have hq:0≤(bL r.b r.p:Int).tmod n∧(bL r.b r.p:Int).tmod n<n:=⟨Int.tmod_nonneg _ (by omega),Int.tmod_lt_of_pos _ (by omega)⟩
    refine ⟨⟨hq.1,.inl hq.2⟩,?_⟩
    refine zj zdL false Tryz.f39 ?_
    conv=>enter [1];reduce
    refine jvM Tryz.f39 99 [.tmp 4] (by kernel_rfl) (by decide +kernel) rfl ?_
    simp -implicitDefEqProofs only [go_sem,w1,w2,h0,h2,h4,hg,w3,hn,zb,za,zf]
   ·rw [if_neg h3]
    unfold pkX
    have h4:¬(r.p:Int)<(r.b.length:Int):=by omega
    have h5:¬((r.b.length:Int)=0):=by omega
    have hL:0<r.b.length:=by omega
    have e1:(r.p:Int).tmod (r.b.length:Int)=((r.p%r.b.length:Nat):Int):=by rw [Int.tmod_eq_emod_of_nonneg (by omega)];rfl
    have e2:IntKind.i64.wrap ((r.p:Int) * 7)=((r.p * 7:Nat):Int):=by rw [wrS (by omega)];omega
    have e3:IntKind.i64.wrap (((r.p * 7:Nat):Int)+3)=((r.p * 7+3:Nat):Int):=by rw [wrS (by omega)];omega
    have e4:((r.p * 7+3:Nat):Int).tmod (r.b.length:Int)=(((r.p * 7+3)%r.b.length:Nat):Int):=by rw [Int.tmod_eq_emod_of_nonneg (by omega)];rfl
    have e5:(r.p:Int).tdiv (r.b.length:Int)=((r.p/r.b.length:Nat):Int):=by rw [Int.tdiv_eq_ediv_of_nonneg (by omega)];rfl
    have l1:r.p%r.b.length<r.b.length:=Nat.mod_lt _ hL
    have l2:(r.p * 7+3)%r.b.length<r.b.length:=Nat.mod_lt _ hL
    have l3:r.p/r.b.length≤r.p:=Nat.div_le_self _ _
    have g1:=xf l1
    have g2:=xf l2
    have b1:=zaR r.b (r.p%r.b.length)
    have b2:=zaR r.b ((r.p * 7+3)%r.b.length)
    generalize r.p%r.b.length=i1 at *
    generalize (r.p * 7+3)%r.b.length=i2 at *
    generalize r.p/r.b.length=i3 at *
    generalize bL r.b i1=x1 at *
    generalize bL r.b i2=x2 at *
    have l1':(i1:Int)<(r.b.length:Int):=by omega
    have l2':(i2:Int)<(r.b.length:Int):=by omega
    have f1:IntKind.i64.wrap (x1:Int)=(x1:Int):=wrS (by omega)
    have f2:IntKind.i64.wrap (x2:Int)=(x2:Int):=wrS (by omega)
    have f3:IntKind.i64.wrap ((x1:Int) * 131)=((x1 * 131:Nat):Int):=by rw [wrS (by omega)];omega
    have f4:IntKind.i64.wrap ((x2:Int) * 1117)=((x2 * 1117:Nat):Int):=by rw [wrS (by omega)];omega
    have f5:IntKind.i64.wrap (((x1 * 131:Nat):Int)+((x2 * 1117:Nat):Int))=((x1 * 131+x2 * 1117:Nat):Int):=by rw [wrS (by omega)];omega
    have f6:IntKind.i64.wrap ((r.p:Int) * 29)=((r.p * 29:Nat):Int):=by rw [wrS (by omega)];omega
    have f7:IntKind.i64.wrap (((x1 * 131+x2 * 1117:Nat):Int)+((r.p * 29:Nat):Int))=((x1 * 131+x2 * 1117+r.p * 29:Nat):Int):=by rw [wrS (by omega)];omega
    have f8:IntKind.i64.wrap ((i3:Int) * 53)=((i3 * 53:Nat):Int):=by rw [wrS (by omega)];omega
    have f9:IntKind.i64.wrap (((x1 * 131+x2 * 1117+r.p * 29:Nat):Int)+((i3 * 53:Nat):Int))=((x1 * 131+x2 * 1117+r.p * 29+i3 * 53:Nat):Int):=by rw [wrS (by omega)];omega
    have hX:x1 * 131+x2 * 1117+r.p * 29+i3 * 53<9223372036854775808:=by omega
    generalize x1 * 131+x2 * 1117+r.p * 29+i3 * 53=X at *
    have f10:(X:Int).tdiv 64=((X/64:Nat):Int):=by rw [Int.tdiv_eq_ediv_of_nonneg (by omega)];rfl
    have hx:=zhj (x:=(X:Int)) (y:=((X/64:Nat):Int)) (by omega) (by omega)
    have hn:¬n=0:=by omega
    generalize hz:zm8 .i64 (X:Int) ((X/64:Nat):Int)=z at *
    have hq:0≤z.tmod n∧z.tmod n<n:=⟨Int.tmod_nonneg _ hx,Int.tmod_lt_of_pos _ (by omega)⟩
    have w64:IntKind.i64.wrap ((X/64:Nat):Int)=((X/64:Nat):Int):=wrS (by omega)
    have f0:IntKind.i64.wrap (i3:Int)=(i3:Int):=wrS (by omega)
    refine ⟨⟨hq.1,.inl hq.2⟩,?_⟩
    refine zj zdL false Tryz.f39 ?_
    conv=>enter [1];reduce
    refine jvM Tryz.f39 99 [.tmp 4] (by kernel_rfl) (by decide +kernel) rfl ?_
    simp -implicitDefEqProofs only [go_sem,w1,w2,h0,h2,h4,h5,e1,e2,e3,e4,e5,g1,g2,l1',l2',f0,f1,f2,f3,f4,f5,f6,f7,f8,f9,f10,w64,hz,hn,zb,za,zf]
def Dr.adv (r:Dr) (i:Nat):Dr:=⟨r.b,r.p+i⟩
theorem adv_b (r:Dr) (i:Nat):(r.adv i).b=r.b:=rfl
theorem zgl (r:Dr) (i:Nat):(r.adv i).p=r.p+i:=rfl
attribute [go_sem] adv_b zgl
def qt (r:Dr):Nat→Nat
 | 0=>0
 | i+1=>(orI .u64 (IntKind.u64.wrap ((qt r i:Int) * 2 ^ 8)) (IntKind.u64.wrap (pk (r.adv i) 256))).toNat
theorem zdh (z:Int):IntKind.u64.wrap z=((IntKind.u64.wrap z).toNat:Int)∧(IntKind.u64.wrap z).toNat<18446744073709551616:=by
 have h8:IntKind.u64.bits=64:=rfl
 have hs:IntKind.u64.signed=false:=rfl
 simp only [IntKind.wrap,h8,hs,Bool.false_and,Bool.false_eq_true,if_false]
 omega
theorem zff (r:Dr) (i:Nat):qt r i<18446744073709551616:=by
 cases i with
 | zero=>simp [qt]
 | succ i=>exact (zdh _).2
def wd (r:Dr):Nat × Dr:=if pk r 6=0 then ((pk r.nx 3).toNat,r.adv 2) else if pk r 6=1 then ((zpZ .u64 (pk r.nx 3)).toNat,r.adv 2) else (qt r.nx 8,r.adv 9)
theorem zg8 (r:Dr) (h:r.ok 900000000):zS Tryz.prog 150 r.row [vD] (vU (wd r).1) (wd r).2.row:=by
 refine zj zdL false Tryz.f150 ?_
 conv=>enter [1];reduce
 refine jvM Tryz.f150 30 [.tmp 2] (by kernel_rfl) (by decide +kernel) rfl ?_
 simp -implicitDefEqProofs only [go_sem]
 have h6:=zax r 6 ⟨h.1,by have:=h.2;omega⟩
 have h3:=zax r.nx 3 ⟨h.1,by have:=h.2;show r.p+1≤_;omega⟩
 refine WantM.intro h6.2 ?_
 unfold wd
 by_cases k0:pk r 6=0
 ·rw [if_pos k0]
  have k1:(pk r 6==0)=true:=by simpa using k0
  simp -implicitDefEqProofs only [go_sem,k1,zb]
  refine WantM.intro h3.2 ?_
  have:=yx (pk r.nx 3).toNat (by omega)
  rw [Int.toNat_of_nonneg h3.1.1] at this
  have h4:=Int.toNat_of_nonneg h3.1.1
  simp -implicitDefEqProofs only [go_sem,this]
  exact congrArg (fun z=>AV.sc (.int .u64 z)) h4.symm
 ·rw [if_neg k0]
  have k1:(pk r 6==0)=false:=by simpa using k0
  by_cases k2:pk r 6=1
  ·rw [if_pos k2]
   have k3:(pk r 6==1)=true:=by simpa using k2
   simp -implicitDefEqProofs only [go_sem,k1,k3,zb,za]
   refine WantM.intro h3.2 ?_
   have:=yx (pk r.nx 3).toNat (by omega)
   rw [Int.toNat_of_nonneg h3.1.1] at this
   have h4:((zpZ .u64 (pk r.nx 3)).toNat:Int)=zpZ .u64 (pk r.nx 3):=(zdh _).1.symm
   simp -implicitDefEqProofs only [go_sem,this]
   exact congrArg (fun z=>AV.sc (.int .u64 z)) h4.symm
  ·rw [if_neg k2]
   have k3:(pk r 6==1)=false:=by simpa using k2
   simp -implicitDefEqProofs only [go_sem,k1,k3,zb,za]
   have hp:=h.2
   refine zU (fun m z=>∃i:Nat,i≤8∧m=8 - i∧z=⟨30,[(0,vD),(4,vU (qt r.nx i)),(5,vI i)],(r.nx.adv i).row,1⟩) 8 ?_ ?_
   ·simp -implicitDefEqProofs only [go_sem]
    exact ⟨0,by omega,rfl,rfl⟩
   ·rintro m z ⟨i,hi,rfl,rfl⟩
    rcases Nat.lt_or_ge i 8 with hlt | hge
    ·have hlt':(i:Int)<8:=by omega
     have hpk:=zax (r.nx.adv i) 256 ⟨h.1,by show r.p+1+i≤_;omega⟩
     have w4:IntKind.i64.wrap ((i:Int)+1)=((i+1:Nat):Int):=by rw [wrS (by omega)];omega
     have hv:orI .u64 (IntKind.u64.wrap ((qt r.nx i:Int) * 2 ^ 8)) (IntKind.u64.wrap (pk (r.nx.adv i) 256))=(qt r.nx (i+1):Int):=(zdh _).1
     simp -implicitDefEqProofs only [go_sem,hlt']
     refine WantM.intro hpk.2 ?_
     simp -implicitDefEqProofs only [go_sem,w4,hv]
     exact ⟨_,by omega,i+1,hlt,rfl,rfl⟩
    ·have hi8:i=8:=by omega
     subst hi8
     have hlt':¬(((8:Nat):Int)<8):=by omega
     simp -implicitDefEqProofs only [go_sem,hlt']
theorem zkX (r:Dr) (h:r.ok 900000000):(wd r).1<18446744073709551616:=by
 unfold wd
 have h3:=zax r.nx 3 ⟨h.1,by have:=h.2;show r.p+1≤_;omega⟩
 split
 ·show (pk r.nx 3).toNat<_;omega
 ·split
  ·show (zpZ .u64 _).toNat<_
   exact (zdh _).2
  ·exact zff _ _
theorem zck (r:Dr) {n:Nat} (h:r.ok n):(wd r).2.ok (n+9)∧(wd r).2.b=r.b:=by
 unfold wd
 obtain ⟨h1,h2⟩:=h
 split
 ·exact ⟨⟨h1,by show r.p+2≤_;omega⟩,rfl⟩
 ·split<;>exact ⟨⟨h1,by show r.p+_≤_;omega⟩,rfl⟩
def dgR (r:Dr):MDig × Dr:=(⟨(wd r).1,(wd (wd r).2).1,(wd (wd (wd r).2).2).1,(wd (wd (wd (wd r).2).2).2).1⟩,(wd (wd (wd (wd r).2).2).2).2)
theorem zb5 (r:Dr) (h:r.ok 800000000):zS Tryz.prog 93 r.row [vD] (.agg (dgR r).1.cs) (dgR r).2.row:=by
 refine zj zdL false Tryz.f93 ?_
 conv=>enter [1];reduce
 refine jvM Tryz.f93 18 [.cell 2 25] (by kernel_rfl) (by decide +kernel) rfl ?_
 have h1:=(zck r h).1
 have h2:=(zck _ h1).1
 have h3:=(zck _ h2).1
 have k:∀{r:Dr} {n:Nat},r.ok n→n≤900000000→r.ok 900000000:=fun h hn=>⟨h.1,Nat.le_trans h.2 hn⟩
 simp -implicitDefEqProofs only [go_sem]
 refine WantM.intro (zg8 r (k h (by omega))) ?_
 simp -implicitDefEqProofs only [go_sem]
 refine WantM.intro (zg8 _ (k h1 (by omega))) ?_
 simp -implicitDefEqProofs only [go_sem]
 refine WantM.intro (zg8 _ (k h2 (by omega))) ?_
 simp -implicitDefEqProofs only [go_sem]
 refine WantM.intro (zg8 _ (k h3 (by omega))) ?_
 simp -implicitDefEqProofs only [go_sem]
 exact ⟨rfl,rfl⟩
theorem jD (r:Dr) {n:Nat} (h:r.ok n):(dgR r).2.ok (n+36)∧(dgR r).2.b=r.b:=by
 have h1:=zck r h
 have h2:=zck _ h1.1
 have h3:=zck _ h2.1
 have h4:=zck _ h3.1
 exact ⟨h4.1,h4.2.trans (h3.2.trans (h2.2.trans h1.2))⟩
theorem xZ (r:Dr) (h:r.ok 800000000):(dgR r).1.ok:=by
 have h1:=(zck r h).1
 have h2:=(zck _ h1).1
 have h3:=(zck _ h2).1
 have k:∀{r:Dr} {n:Nat},r.ok n→n≤900000000→r.ok 900000000:=fun h hn=>⟨h.1,Nat.le_trans h.2 hn⟩
 exact ⟨zkX _ (k h (by omega)),zkX _ (k h1 (by omega)),zkX _ (k h2 (by omega)),zkX _ (k h3 (by omega))⟩
def txL (r:Dr):Nat→List UInt8
 | 0=>[]
 | i+1=>txL r i++[UInt8.ofNat (pk (r.adv i) 256).toNat]
theorem zix (r:Dr) (i:Nat):(txL r i).length=i:=by
 induction i with
 | zero=>rfl
 | succ i ih=>simp [txL,ih]
def tx (r:Dr) (n:Int):ByteArray × Dr:=(bA (txL r.nx (pk r (n+1)).toNat),r.nx.adv (pk r (n+1)).toNat)
theorem zog (r:Dr) (n:Int) (h:r.ok 900000000) (hn:0≤n∧n≤1000):zS Tryz.prog 96 r.row [vD,vI n] (vS (tx r n).1) (tx r n).2.row:=by
 refine zj zdL false Tryz.f96 ?_
 conv=>enter [1];reduce
 refine jvM Tryz.f96 24 [.tmp 4] (by kernel_rfl) (by decide +kernel) rfl ?_
 have hp:=h.2
 have hk:=zax r (n+1) ⟨h.1,by omega⟩
 have w1:IntKind.i64.wrap (n+1)=n+1:=wrS (by omega)
 simp -implicitDefEqProofs only [go_sem,w1]
 refine WantM.intro hk.2 ?_
 unfold tx
 obtain ⟨hk1,-⟩:=hk
 obtain ⟨K,hK,hK2⟩:∃K:Nat,pk r (n+1)=K∧K≤1000:=⟨(pk r (n+1)).toNat,by omega,by omega⟩
 rw [hK]
 simp -implicitDefEqProofs only [go_sem]
 refine zU (fun m z=>∃i:Nat,i≤K∧m=K - i∧z=⟨24,[(0,vD),(5,.blk 5 0 [] 1 0 (txL r.nx i).length),(6,vI ((K - i:Nat):Int))],[(1000000,0,one ⟨2,[(r.nx.adv i).cs],0,false⟩),(5,0,one ⟨1,(txL r.nx i).map zt,2,false⟩)],1⟩) K ?_ ?_
 ·simp -implicitDefEqProofs only [go_sem]
  exact ⟨0,by omega,rfl,rfl⟩
 ·rintro m z ⟨i,hi,rfl,rfl⟩
  have htl:=zix r.nx i
  rcases Nat.lt_or_ge i K with hlt | hge
  ·have hlt':((K - i:Nat):Int)>0:=by omega
   have hpk:=zax (r.nx.adv i) 256 ⟨h.1,by show r.p+1+i≤_;omega⟩
   have w4:IntKind.i64.wrap (((K - i:Nat):Int) - 1)=((K - (i+1):Nat):Int):=by rw [wrS (by omega)];omega
   have hb:IntKind.u8.wrap (pk (r.nx.adv i) 256)=(((pk (r.nx.adv i) 256).toNat%256:Nat):Int):=by rw [←zgu,Int.toNat_of_nonneg hpk.1.1]
   have ha:∀x,_:=fun x=>zH (E:=zt) (l:=txL r.nx i) (xs:=[x]) (b:=1) (n:=100000) (by simp;omega) (by omega) (by omega)
   simp -implicitDefEqProofs only [go_sem,hlt']
   refine WantM.intro hpk.2 ?_
   simp -implicitDefEqProofs only [go_sem,w4,hb,ha]
   exact ⟨_,by omega,i+1,hlt,rfl,by simp [txL,zt];rfl⟩
  ·have hiK:i=K:=by omega
   subst hiK
   have hlt':¬(((i - i:Nat):Int)>0):=by omega
   simp -implicitDefEqProofs only [go_sem,hlt',xl]
   rfl
def rep (s:List UInt8) (k:Nat):List UInt8:=(List.replicate k s).flatten
theorem ziT (s:List UInt8) (a b:Nat):rep s (a+b)=rep s a++rep s b:=by simp [rep,←List.replicate_append_replicate]
theorem zfC (s:List UInt8) (k:Nat):(rep s k).length=k * s.length:=by simp [rep,List.length_flatten,List.map_replicate,List.sum_replicate_nat]
theorem zkn (s:List UInt8) (n:Nat) (hn:n≤30000) (hs:s.length≤4):CallR Tryz.prog 131 [vS (bA s),vI n] (vS (bA (rep s n))) []:=by
 refine zj zdL false Tryz.f131 ?_
 conv=>enter [1];reduce
 refine jvR Tryz.f131 20 [.tmp 4] (by kernel_rfl) (by decide +kernel) rfl ?_
 simp -implicitDefEqProofs only [go_sem]
 refine zU (fun m z=>∃q c x:Nat,m=q∧x+q * c=n∧(1≤c∧c≤2 * n+1)∧z=⟨20,[(0,vS (bA (rep s c))),(1,vI q),(5,vS (bA (rep s x)))],[],1⟩) n ?_ ?_
 ·simp -implicitDefEqProofs only [go_sem]
  exact ⟨n,1,0,rfl,by omega,by omega,by simp [rep];rfl⟩
 ·rintro m z ⟨q,c,x,rfl,hx,hc,rfl⟩
  rcases Nat.eq_zero_or_pos m with h0 | h0
  ·subst h0
   have hlt':¬(((0:Nat):Int)>0):=by omega
   simp -implicitDefEqProofs only [go_sem,hlt']
   rw [show x=n by omega]
  ·have hlt':(m:Int)>0:=by omega
   have hcn:c≤n:=Nat.le_trans (Nat.le_mul_of_pos_left c h0) (by omega)
   have htm:((m:Int)).tmod 2=((m%2:Nat):Int):=by rw [Int.tmod_eq_emod_of_nonneg (by omega)];omega
   have htd:((m:Int)).tdiv 2=((m/2:Nat):Int):=by rw [Int.tdiv_eq_ediv_of_nonneg (by omega)];omega
   have w1:IntKind.i64.wrap ((m/2:Nat):Int)=((m/2:Nat):Int):=by
    have hmn:m≤n:=Nat.le_trans (Nat.le_mul_of_pos_right m hc.1) (by omega)
    exact wrS (by omega)
   have l1:=zfC s c
   have l2:=zfC s x
   have b1:c * s.length≤30000 * 4:=Nat.mul_le_mul (by omega) hs
   have b2:x * s.length≤30000 * 4:=Nat.mul_le_mul (by omega) hs
   have hsz1:¬((((rep s x).length+(rep s c).length:Nat):Int)>9223372036854775807):=by omega
   have hsz2:¬((((rep s c).length+(rep s c).length:Nat):Int)>9223372036854775807):=by omega
   have e2:rep s c++rep s c=rep s (2 * c):=by rw [←ziT];congr 1;omega
   have e1:=(ziT s x c).symm
   simp -implicitDefEqProofs only [go_sem,hlt',htm]
   rcases Nat.mod_two_eq_zero_or_one m with hm | hm
   ·have k1:(((m%2:Nat):Int)==1)=false:=by rw [hm];rfl
    simp -implicitDefEqProofs only [go_sem,k1,za,hsz2,e2,htd,w1]
    refine ⟨m/2,by omega,m/2,2 * c,x,rfl,?_,by omega,rfl⟩
    have:m/2 * (2 * c)=m * c:=by rw [←Nat.mul_assoc];congr 1;omega
    omega
   ·have k1:(((m%2:Nat):Int)==1)=true:=by rw [hm];rfl
    simp -implicitDefEqProofs only [go_sem,k1,zb,hsz1,hsz2,e1,e2,htd,w1]
    refine ⟨m/2,by omega,m/2,2 * c,x+c,rfl,?_,by omega,rfl⟩
    have h1:m/2 * (2 * c)=(m - 1) * c:=by rw [←Nat.mul_assoc];congr 1;omega
    have h2:m * c=(m - 1) * c+c:=by
     obtain ⟨k,rfl⟩:∃k,m=k+1:=⟨m - 1,by omega⟩
     rw [Nat.add_mul,Nat.one_mul];rfl
    omega
end Go.Proofs.YtpjpkmhaffmbmaaGreat.E
end
section
namespace Go.Proofs.YtpjpkmhaffmbmaaGreat.E
open Go Go.RowKit
set_option maxHeartbeats 4000000
set_option maxRecDepth 10000
set_option linter.unusedSimpArgs false
set_option linter.unusedVariables false
set_option linter.unusedSectionVars false
theorem ok_s {S:Int} (h:1≤S∧S≤1000000):zy ⟨1,S,0,0,dig0,0,[],[]⟩=true:=by simp [zy,zcq,xz,xK,mIn,qS,dig0,zq,h.1,h.2]
theorem zfL {S Z:Int} {d:MDig} (h:1≤S∧S≤1000000) (k:0≤Z∧Z≤256):zy ⟨2,S,0,Z,d,0,[],[]⟩=true:=by simp [zy,zcq,xz,xK,mIn,zq,h.1,h.2,k.1,k.2]
theorem zfK {S Z:Int} {d:MDig} (h:1≤S∧S≤1000000) (k:0≤Z∧Z≤256):zy ⟨3,S,0,Z,d,0,[],[]⟩=true:=by simp [zy,zcq,xz,xK,mIn,zq,h.1,h.2,k.1,k.2]
theorem zdn {S Z:Int} {d:MDig} (h:1≤S∧S≤1000000) (k:0≤Z∧Z≤256):zy ⟨6,S,0,Z,d,0,[],[]⟩=true:=by simp [zy,zcq,xz,xK,mIn,zq,h.1,h.2,k.1,k.2]
theorem zns {F Z:Int} (h:0≤F∧F≤256) (k:0≤Z∧Z≤256):zy ⟨4,0,F,Z,dig0,0,[],[]⟩=true:=by simp [zy,zcq,xz,xK,mIn,qS,dig0,zq,h.1,h.2,k.1,k.2]
theorem zjh {F Z:Int} {p:List MDig} (h:0≤F∧F≤256) (k:0≤Z∧Z≤256) (hp:p.length≤16):zy ⟨5,0,F,Z,dig0,0,p,[]⟩=true:=by simp [zy,zcq,xz,xK,mIn,qS,dig0,zq,h.1,h.2,k.1,k.2];omega
theorem zpV {F C:Int} (h:0≤F∧F≤256) (k:1≤C∧C≤8):zy ⟨7,0,F,0,dig0,C,[],[]⟩=true:=by simp [zy,zcq,xz,xK,mIn,qS,dig0,zq,h.1,h.2,k.1,k.2]
theorem zln {F:Int} {l:List ByteArray} (h:0≤F∧F≤256) (k:l.length≤8) (hl:zq l=true):zy ⟨8,0,F,0,dig0,0,[],l⟩=true:=by simp [zy,zcq,xz,xK,mIn,qS,dig0,h.1,h.2,hl];omega
theorem yw:dig0.ok:=⟨by decide,by decide,by decide,by decide⟩
end Go.Proofs.YtpjpkmhaffmbmaaGreat.E
end
